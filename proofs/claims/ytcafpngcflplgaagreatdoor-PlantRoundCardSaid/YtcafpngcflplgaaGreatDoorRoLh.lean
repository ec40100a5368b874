import Derived.Test.YtcafpngcflplgaaGreatDoorRoLc
import Derived.Test.YtcafpngcflplgaaGreatDoorRoGm
import Derived.KernelRfl
import Derived.Test.YtcafpngcflplgaaGreatDoorRoLg
import Derived.Lib.AtoiTie
import Derived.Lib.ItoaLen
import Derived.Lib.IndexBytes
set_option linter.all false
namespace Sg
open Go
theorem wr {x:Int} (h: -9223372036854775808≤x∧x≤9223372036854775807):IntKind.wrap .i64 x=x:=by rw [IntKind.wrap_i64];omega
theorem Eb {σ ρ:Type} {body:σ→Option (cO σ ρ)}: ∀{n m:Nat} {s:σ} {r:ρ},aR body n s=some r→n≤m→aR body m s=some r
 |0,_,_,_,h,_=>by cases h
 |n+1,0,_,_,_,hm=>by omega
 |n+1,m+1,s,r,h,hm=>by
  rw [kC]at h ⊢
  revert h
  cases body s with
  |none=>exact id
  |some f=>
   cases f with
   |next s'=>exact fun h=>Eb h (by omega)
   |done r=>exact id
theorem H9 {σ ρ:Type} {body:σ→Option (cO σ ρ)} (S:Nat→σ) (k:Nat) (hs: ∀i,i<k→body (S i)=some (.next (S (i+1)))): ∀(m:Nat),aR body (k+m) (S 0)=aR body m (S k):=by
 induction k with
 |zero=>intro m;simp
 |succ k ih=>
  intro m
  have:=ih (fun i hi=>hs i (by omega)) (m+1)
  rw [show k+1+m=k+(m+1) by omega,this,kC,hs k (by omega)]
theorem nO {σ ρ:Type} {body:σ→Option (cO σ ρ)} {N:Nat} (S:Nat→σ) (k:Nat) (r:ρ) (hk:k<N) (hs: ∀i,i<k→body (S i)=some (.next (S (i+1)))) (hd:body (S k)=some (.done r)):aR body N (S 0)=some r:=by
 have h:=H9 S k hs 1
 have h1:aR body 1 (S k)=some r:=by rw [kC,hd]
 exact Eb (h.trans h1) (by omega)
theorem fuel_lt {k:Nat} (h:k≤9223372036854775807):k<FUEL:=by unfold FUEL;omega
section
variable {α:Type} [Inhabited α]
theorem p8 {l:List α} {i:Nat} (h:i<l.length):at' l i=l[i]:=by simp [at',h]
theorem at_mem {l:List α} {i:Nat} (h:i<l.length):at' l i∈l:=by rw [p8 h];exact List.getElem_mem h
theorem fH {l:List α} {x:α} (h:x∈l): ∃i,i<l.length∧at' l i=x:=by
 obtain⟨i,hi,e⟩:=List.mem_iff_getElem.mp h
 exact⟨i,hi,by rw [p8 hi];exact e⟩
theorem Ul {l m:List α} (hl:l.length=m.length) (h: ∀i,i<l.length→at' l i=at' m i):l=m:=by
 apply List.ext_getElem hl
 intro i h1 h2
 have:=h i h1
 rwa [p8 h1,p8 h2]at this
theorem jG {l:List α} {i:Nat} (h:i<l.length):l.take (i+1)=l.take i++[at' l i]:=by
 rw [p8 h,List.take_succ_eq_append_getElem h]
theorem xk {ρ:Type} {body:Int→Option (cO Int (Ex Unit ρ))} (l:List α) (bad:α→Bool) (f:Int→ρ) (hl:l.length≤9223372036854775807)
  (hb: ∀i:Nat,i<l.length→body i=some (bif bad (at' l i)then .done (.ret (f i))else .next ((i:Int)+1))) (he:body l.length=some (.done (.brk ()))):
  aR body FUEL 0=some (match l.findIdx? bad with|some i=> .ret (f i)|none=> .brk ()):=by
 cases h:l.findIdx? bad with
 |none=>
  rw [List.findIdx?_eq_none_iff]at h
  refine nO (fun i=>(i:Int)) l.length _ (fuel_lt (by omega)) (fun i hi=> ?_) he
  rw [hb i hi,h _ (at_mem hi)];simp
 |some k=>
  rw [List.findIdx?_eq_some_iff_getElem]at h
  obtain⟨hk,hp,hn⟩:=h
  refine nO (fun i=>(i:Int)) k _ (fuel_lt (by omega)) (fun i hi=> ?_) ?_
  ·have:=hn i hi
   rw [hb i (by omega),p8 (by omega)]
   simp [this]
  ·rw [hb k hk,p8 hk,hp];rfl
omit [Inhabited α]in
theorem uo (l:List α) (bad:α→Bool):(decide ((0:Int)≤(match l.findIdx? bad with|some i=>(i:Int)|none=> -1)))=l.any bad:=by
 cases h:l.findIdx? bad with
 |none=>
  rw [List.findIdx?_eq_none_iff]at h
  have:l.any bad=false:=by rw [List.any_eq_false];intro x hx;simp [h x hx]
  rw [this];simp
 |some k=>
  rw [List.findIdx?_eq_some_iff_getElem]at h
  obtain⟨hk,hp,hn⟩:=h
  have:l.any bad=true:=by rw [List.any_eq_true];exact⟨_,List.getElem_mem hk,hp⟩
  rw [this];simp
end
section
variable {α:Type}
end
theorem Cm {α:Type} (c:Bool) (x y:α):(bif c then some x else some y)=some (bif c then x else y):=by cases c<;>rfl
theorem mE {ρ:Type} {body:Int→Option (cO Int (Ex Unit ρ))} (n:Nat) (bad:Nat→Bool) (f:Int→ρ) (hl:n≤9223372036854775807)
  (hb: ∀i:Nat,i<n→body i=some (bif bad i then .done (.ret (f i))else .next ((i:Int)+1))) (he:body n=some (.done (.brk ()))):
  aR body FUEL 0=some (match(List.range n).find? bad with|some i=> .ret (f i)|none=> .brk ()):=by
 cases h:(List.range n).find? bad with
 |none=>
  rw [List.find?_eq_none]at h
  refine nO (fun i=>(i:Int)) n _ (fuel_lt (by omega)) (fun i hi=> ?_) he
  rw [hb i hi]
  have:=h i (List.mem_range.mpr hi)
  simp at this;simp [this]
 |some k=>
  rw [List.find?_range_eq_some]at h
  obtain⟨hp,hk,hn⟩:=h
  rw [List.mem_range]at hk
  refine nO (fun i=>(i:Int)) k _ (fuel_lt (by omega)) (fun i hi=> ?_) ?_
  ·have:=hn i hi
   rw [hb i (by omega)]
   simp at this;simp [this]
  ·rw [hb k hk,hp];rfl
theorem yL {α:Type} (p:α→Bool): ∀l:List α,(l.find? p).isSome=l.any p
 |[]=>rfl
 |x::l=>by
  rw [List.any_cons,List.find?_cons]
  cases h:p x with
  |true=>simp
  |false=>simpa using yL p l
def wi (n a b:Int):Bool:=decide (a≤n) && decide (n≤b)
theorem xJ {n a b:Int}:wi n a b=true↔a≤n∧n≤b:=by simp [wi]
theorem qp (n a b:Int):aL n a b=some (wi n a b):=by
 unfold aL wi;cases decide (a≤n)<;>rfl
def pI (b:Int) (x:Source):Bool:=wi x.bus 0 (b - 1) && wi x.kind 1 3 && wi x.power 1 100000 && wi x.sync 0 8 && wi x.ohm 10 100000
theorem M6 {b:Int} (hb:1≤b∧b≤24) (x:Source) (l1:List Source) (l2:List Link) (l3:List aG):jI x b l1 l2 l3=some (pI b x):=by
 unfold jI pI
 simp only [qp,Option.bind_some]
 rw [wr (by omega)]
 generalize wi x.bus 0 (b - 1)=b1
 generalize wi x.kind 1 3=b2
 generalize wi x.power 1 100000=b3
 generalize wi x.sync 0 8=b4
 generalize wi x.ohm 10 100000=b5
 cases b1<;>cases b2<;>cases b3<;>cases b4<;>cases b5<;>rfl
def l8 (l:List aW) (i:Nat):Bool:=
 !wi (at' l i).amps 1 1000000|| !wi (at' l i).millis 1 100000||(decide (0<i) && (decide ((at' l i).amps≤(at' l (i - 1)).amps)||decide ((at' l (i - 1)).millis≤(at' l i).millis)))
def lF (b:Int) (x:Link):Bool:=
 wi x.a 0 (b - 1) && wi x.b 0 (b - 1) && !decide (x.a=x.b) && wi x.kind 1 3 && wi x.most 1 100000 && wi x.ohm 10 100000 && !(List.range x.trip.length).any (l8 x.trip) && decide ((x.trip.length:Int)≤6) && (decide ((x.trip.length:Int)=0)||decide (x.kind=3))
theorem Ra {α:Type} [Inhabited α] (l:List α) (i:Nat) (h:0<i):at' l (((i:Int) - 1).toNat)=at' l (i - 1):=by
 congr 1;omega
theorem Sj (x:Link) (hx:x.trip.length≤9223372036854775807):aR (jm x) FUEL 0=some (match(List.range x.trip.length).find? (l8 x.trip)with|some _=> .ret false|none=> .brk ()):=by
 refine mE x.trip.length (l8 x.trip) (fun _=>false) hx (fun i hi=> ?_) ?_
 ·unfold jm
  have h1:decide ((i:Int)<(x.trip.length:Int))=true:=by simp;omega
  rw [h1,cond_true,bD (by omega)]
  simp only [qp,Option.bind_some,Int.toNat_natCast]
  rw [wr (x:=(i:Int) - 1) (by omega),wr (x:=(i:Int)+1) (by omega)]
  unfold l8
  by_cases h0:0<i
  ·rw [Ra _ _ h0]
   simp only [h0,Int.natCast_pos,decide_true]
   generalize wi (at' x.trip i).amps 1 1000000=b1
   generalize wi (at' x.trip i).millis 1 100000=b2
   generalize decide ((at' x.trip i).amps≤(at' x.trip (i - 1)).amps)=b3
   generalize decide ((at' x.trip (i - 1)).millis≤(at' x.trip i).millis)=b4
   cases b1<;>cases b2<;>cases b3<;>cases b4<;>simp [gB,bU]<;>omega
  ·have:i=0:=by omega
   subst this
   generalize wi (at' x.trip 0).amps 1 1000000=b1
   generalize wi (at' x.trip 0).millis 1 100000=b2
   cases b1<;>cases b2<;>simp [gB,bU]
 ·unfold jm
  have h1:decide ((x.trip.length:Int)<(x.trip.length:Int))=false:=by simp
  rw [h1];rfl
theorem Ro {b:Int} (hb:1≤b∧b≤24) (x:Link) (hx:x.trip.length≤9223372036854775807) (l1:List Source) (l2:List Link) (l3:List aG):kU x b l1 l2 l3=some (lF b x):=by
 unfold kU lF
 simp only [qp,Option.bind_some]
 rw [wr (by omega),Sj x hx]
 generalize wi x.a 0 (b - 1)=b1
 generalize wi x.b 0 (b - 1)=b2
 generalize decide (x.a=x.b)=b3
 generalize wi x.kind 1 3=b4
 generalize wi x.most 1 100000=b5
 generalize wi x.ohm 10 100000=b6
 have:(List.range x.trip.length).any (l8 x.trip)=((List.range x.trip.length).find? (l8 x.trip)).isSome:=(yL _ _).symm
 rw [this]
 cases b1<;>cases b2<;>cases b3<;>cases b4<;>cases b5<;>cases b6<;>try rfl
 cases(List.range x.trip.length).find? (l8 x.trip)with
 |some k=>simp [gB]
 |none=>
  simp only [gB,Option.bind_some,Option.isSome_none]
  generalize decide ((x.trip.length:Int)≤6)=c1
  generalize decide ((x.trip.length:Int)=0)=c2
  generalize decide (x.kind=3)=c3
  cases c1<;>cases c2<;>cases c3<;>rfl
def iY (x:aG):Int:=if x.feeds.e1= -1 then 1 else 2
def lG (b:Int) (x:aG):Bool:=wi x.feeds.e0 0 (b - 1) && wi x.feeds.e1 (-1) (b - 1) && !decide (x.feeds.e0=x.feeds.e1) && wi x.power 1 100000 && wi x.paths 0 (iY x)
theorem PG (x:aG):lZ x=some (iY x):=by
 unfold lZ iY
 by_cases h:x.feeds.e1= -1<;>simp [h]
theorem Rl {b:Int} (hb:1≤b∧b≤24) (x:aG) (l1:List Source) (l2:List Link) (l3:List aG):kY x b l1 l2 l3=some (lG b x):=by
 unfold kY lG
 simp only [qp,Option.bind_some,PG]
 rw [wr (by omega)]
 generalize wi x.feeds.e0 0 (b - 1)=b1
 generalize wi x.feeds.e1 (-1) (b - 1)=b2
 generalize decide (x.feeds.e0=x.feeds.e1)=b3
 generalize hb4:wi x.power 1 100000=b4
 cases b1<;>cases b2<;>cases b3<;>cases b4<;>simp [gB]<;>rfl
theorem uQ {α ρ:Type} [Inhabited α] {l:List α} {i:Nat} (hi:i<l.length) (hl:l.length≤9223372036854775807) (b:Bool) (f:Int→ρ) (G:Option (cO Int (Ex Unit ρ))):
  (bif (decide ((i:Int)<(l.length:Int)))then((some b).bind fun r_=>bU ((0:Int)≤(i:Int)∧(i:Int)<(l.length:Int)) (bif r_ then some (.done (.ret (f (i:Int))))else some (.next (IntKind.wrap .i64 ((i:Int)+1)))))else G)=some (bif b then .done (.ret (f i))else .next ((i:Int)+1)):=by
 have h1:decide ((i:Int)<(l.length:Int))=true:=by simp;omega
 rw [h1,cond_true,Option.bind_some,bD (by omega),wr (by omega)]
 cases b<;>rfl
theorem Pg {b:Int} (hb:1≤b∧b≤24) (l:List Source) (hl:l.length≤9223372036854775807) (m:Int) (l1:List Source) (l2:List Link) (l3:List aG):
  nC l m b l1 l2 l3=some (decide ((l.length:Int)≤m) && l.all (pI b)):=by
 have hs:fU l b l1 l2 l3=some (l.any fun x=> !pI b x):=by
  unfold fU kG
  rw [xk l (fun x=> !pI b x) id hl (fun i hi=> ?_) ?_]
  ·rw [←uo];cases l.findIdx? fun x=> !pI b x<;>rfl
  ·unfold jh;simp
  ·unfold jh oH
   rw [Int.toNat_natCast,M6 hb,Option.bind_some]
   exact uQ hi hl _ id _
 unfold nC
 rw [hs]
 have:(!l.any fun x=> !pI b x)=l.all (pI b):=by rw [List.not_any_eq_all_not];simp
 rw [←this]
 cases decide ((l.length:Int)≤m)<;>simp [gB]
theorem MH {b:Int} (hb:1≤b∧b≤24) (l:List Link) (hl:l.length≤9223372036854775807) (ht: ∀x∈l,x.trip.length≤9223372036854775807) (m:Int) (l1:List Source) (l2:List Link) (l3:List aG):
  kW l m b l1 l2 l3=some (decide ((l.length:Int)≤m) && l.all (lF b)):=by
 have hs:eD l b l1 l2 l3=some (l.any fun x=> !lF b x):=by
  unfold eD je
  rw [xk l (fun x=> !lF b x) id hl (fun i hi=> ?_) ?_]
  ·rw [←uo];cases l.findIdx? fun x=> !lF b x<;>rfl
  ·unfold gN;simp
  ·unfold gN lC
   rw [Int.toNat_natCast,Ro hb _ (ht _ (at_mem hi)),Option.bind_some]
   exact uQ hi hl _ id _
 unfold kW
 rw [hs]
 have:(!l.any fun x=> !lF b x)=l.all (lF b):=by rw [List.not_any_eq_all_not];simp
 rw [←this]
 cases decide ((l.length:Int)≤m)<;>simp [gB]
theorem ND {b:Int} (hb:1≤b∧b≤24) (l:List aG) (hl:l.length≤9223372036854775807) (m:Int) (l1:List Source) (l2:List Link) (l3:List aG):
  kT l m b l1 l2 l3=some (decide ((l.length:Int)≤m) && l.all (lG b)):=by
 have hs:eF l b l1 l2 l3=some (l.any fun x=> !lG b x):=by
  unfold eF jg
  rw [xk l (fun x=> !lG b x) id hl (fun i hi=> ?_) ?_]
  ·rw [←uo];cases l.findIdx? fun x=> !lG b x<;>rfl
  ·unfold gQ;simp
  ·unfold gQ lm
   rw [Int.toNat_natCast,Rl hb,Option.bind_some]
   exact uQ hi hl _ id _
 unfold kT
 rw [hs]
 have:(!l.any fun x=> !lG b x)=l.all (lG b):=by rw [List.not_any_eq_all_not];simp
 rw [←this]
 cases decide ((l.length:Int)≤m)<;>simp [gB]
structure Small (p:au):Prop where
 src:p.sources.length≤9223372036854775807
 lnk:p.links.length≤9223372036854775807
 rck:p.racks.length≤9223372036854775807
 trp: ∀x∈p.links,x.trip.length≤9223372036854775807
def jd (p:au):Int:=
 if wi p.buses 1 24=false then 10 else if(decide ((p.sources.length:Int)≤8) && p.sources.all (pI p.buses))=false then 11
 else if(decide ((p.links.length:Int)≤40) && p.links.all (lF p.buses))=false then 12 else if(decide ((p.racks.length:Int)≤24) && p.racks.all (lG p.buses))=false then 13 else 0
theorem tQ (p:au) (hp:Small p):eB p=some (jd p):=by
 unfold eB jd
 simp only [qp,Option.bind_some,oO,qQ,qX]
 cases h0:wi p.buses 1 24 with
 |false=>simp
 |true=>
  have hb:=xJ.mp h0
  rw [Pg hb _ hp.src,MH hb _ hp.lnk hp.trp,ND hb _ hp.rck]
  simp only [Option.bind_some,Bool.not_true,cond_false]
  generalize (decide ((p.sources.length:Int)≤8) && p.sources.all (pI p.buses))=b1
  generalize (decide ((p.links.length:Int)≤40) && p.links.all (lF p.buses))=b2
  generalize (decide ((p.racks.length:Int)≤24) && p.racks.all (lG p.buses))=b3
  cases b1<;>cases b2<;>cases b3<;>simp
def mQ (p:au) (s:State):Bool:=
 decide (s.closed.length=p.links.length) && decide (s.locked.length=p.links.length) && decide (s.badLink.length=p.links.length) && decide (s.on_.length=p.sources.length) && decide (s.badSource.length=p.sources.length) &&
 decide ((s.earthed.length:Int)=p.buses) && decide ((s.badBus.length:Int)=p.buses)
def jy (p:au) (s:State) (i:Nat):Bool:=decide ((at' p.links i).kind=1) && (!at' s.closed i||at' s.locked i)
def tZ (p:au) (s:State):Int:=if jd p≠0 then jd p else if mQ p s && !(List.range p.links.length).any (jy p s)then 0 else 9
theorem pU (p:au) (s:State) (hp:Small p):bI p s=some (tZ p s):=by
 unfold bI tZ
 rw [tQ p hp,Option.bind_some]
 by_cases hc:jd p=0
 ·rw [hc]
  simp only [decide_true,Bool.not_true,cond_false,ne_eq,not_true_eq_false,if_false]
  have h0:aR (fQ p s) FUEL 0=some (bif mQ p s then .brk ()else .ret 9):=by
   have key:=mE (body:=fQ p s) 7 (fun i=> !decide (((at' [(⟨s.closed,(p.links.length:Int)⟩:bR),(⟨s.locked,(p.links.length:Int)⟩:bR),(⟨s.badLink,(p.links.length:Int)⟩:bR),(⟨s.on_,(p.sources.length:Int)⟩:bR),(⟨s.badSource,(p.sources.length:Int)⟩:bR),(⟨s.earthed,p.buses⟩:bR),(⟨s.badBus,p.buses⟩:bR)] i).l.length:Int)=(at' [(⟨s.closed,(p.links.length:Int)⟩:bR),(⟨s.locked,(p.links.length:Int)⟩:bR),(⟨s.badLink,(p.links.length:Int)⟩:bR),(⟨s.on_,(p.sources.length:Int)⟩:bR),(⟨s.badSource,(p.sources.length:Int)⟩:bR),(⟨s.earthed,p.buses⟩:bR),(⟨s.badBus,p.buses⟩:bR)] i).n)) (fun _=>(9:Int)) (by omega) (fun i hi=> ?_) ?_
   ·rw [key]
    have e:((List.range 7).find? fun i=> !decide (((at' [(⟨s.closed,(p.links.length:Int)⟩:bR),(⟨s.locked,(p.links.length:Int)⟩:bR),(⟨s.badLink,(p.links.length:Int)⟩:bR),(⟨s.on_,(p.sources.length:Int)⟩:bR),(⟨s.badSource,(p.sources.length:Int)⟩:bR),(⟨s.earthed,p.buses⟩:bR),(⟨s.badBus,p.buses⟩:bR)] i).l.length:Int)=(at' [(⟨s.closed,(p.links.length:Int)⟩:bR),(⟨s.locked,(p.links.length:Int)⟩:bR),(⟨s.badLink,(p.links.length:Int)⟩:bR),(⟨s.on_,(p.sources.length:Int)⟩:bR),(⟨s.badSource,(p.sources.length:Int)⟩:bR),(⟨s.earthed,p.buses⟩:bR),(⟨s.badBus,p.buses⟩:bR)] i).n)).isSome= !mQ p s:=by
     rw [show List.range 7=[0,1,2,3,4,5,6]from rfl,yL]
     simp only [List.any_cons,List.any_nil,at',List.getD_cons_zero,List.getD_cons_succ,mQ,Int.natCast_inj]
     simp [Bool.or_assoc]
    revert e
    cases hf:(List.range 7).find? _ with
    |none=>
     intro e
     have:mQ p s=true:=by simpa using e.symm
     rw [this];rfl
    |some k=>
     intro e
     have:mQ p s=false:=by simpa using e.symm
     rw [this];rfl
   ·have h1:decide ((i:Int)<7)=true:=by simp;omega
    unfold fQ
    rw [show([(⟨s.closed,(p.links.length:Int)⟩:bR),(⟨s.locked,(p.links.length:Int)⟩:bR),(⟨s.badLink,(p.links.length:Int)⟩:bR),(⟨s.on_,(p.sources.length:Int)⟩:bR),(⟨s.badSource,(p.sources.length:Int)⟩:bR),(⟨s.earthed,p.buses⟩:bR),(⟨s.badBus,p.buses⟩:bR)].length:Int)=7 from rfl,h1,cond_true,bD (by omega),Int.toNat_natCast,wr (by omega)]
    exact Cm _ _ _
   ·rfl
  rw [h0,Option.bind_some]
  cases hL:mQ p s with
  |false=>rfl
  |true=>
   simp only [cond_true,Bool.true_and]
   simp only [mQ,Bool.and_eq_true,decide_eq_true_eq]at hL
   have h1:aR (fT p s) FUEL 0=some (match(List.range p.links.length).find? (jy p s)with|some _=> .ret 9|none=> .brk ()):=by
    refine mE p.links.length (jy p s) (fun _=>9) hp.lnk (fun i hi=> ?_) ?_
    ·unfold fT jy
     have h1:decide ((i:Int)<(p.links.length:Int))=true:=by simp;omega
     have:=hp.lnk
     rw [h1,cond_true,bD (by omega),Int.toNat_natCast,wr (by omega),bD ⟨fun _=>by omega,fun _=>by omega⟩]
     generalize decide ((at' p.links i).kind=1)=b1
     generalize at' s.closed i=b2
     generalize at' s.locked i=b3
     cases b1<;>cases b2<;>cases b3<;>rfl
    ·unfold fT;simp
   rw [h1,Option.bind_some]
   have:(List.range p.links.length).any (jy p s)=((List.range p.links.length).find? (jy p s)).isSome:=(yL _ _).symm
   rw [this]
   cases(List.range p.links.length).find? (jy p s)<;>rfl
 ·have:decide (jd p=0)=false:=by simp [hc]
  rw [this]
  simp [hc]
structure VL (b:Int) (x:Link):Prop where
 a:0≤x.a∧x.a<b
 b:0≤x.b∧x.b<b
 ab:x.a≠x.b
 kind:1≤x.kind∧x.kind≤3
 most:1≤x.most∧x.most≤100000
 ohm:10≤x.ohm∧x.ohm≤100000
 tl:x.trip.length≤6
 trip: ∀i,i<x.trip.length→l8 x.trip i=false
 trk:x.trip=[]∨x.kind=3
structure O3 (b:Int) (x:Source):Prop where
 bus:0≤x.bus∧x.bus<b
 kind:1≤x.kind∧x.kind≤3
 power:1≤x.power∧x.power≤100000
 sync:0≤x.sync∧x.sync≤8
 ohm:10≤x.ohm∧x.ohm≤100000
structure VR (b:Int) (x:aG):Prop where
 e0:0≤x.feeds.e0∧x.feeds.e0<b
 e1: -1≤x.feeds.e1∧x.feeds.e1<b
 ne:x.feeds.e0≠x.feeds.e1
 power:1≤x.power∧x.power≤100000
 paths:0≤x.paths∧x.paths≤iY x
structure VP (p:au):Prop where
 b:1≤p.buses∧p.buses≤24
 sl:p.sources.length≤8
 src: ∀i,i<p.sources.length→O3 p.buses (at' p.sources i)
 ll:p.links.length≤40
 lnk: ∀i,i<p.links.length→VL p.buses (at' p.links i)
 rl:p.racks.length≤24
 rck: ∀i,i<p.racks.length→VR p.buses (at' p.racks i)
structure VS (p:au) (s:State):Prop where
 closed:s.closed.length=p.links.length
 locked:s.locked.length=p.links.length
 badLink:s.badLink.length=p.links.length
 on:s.on_.length=p.sources.length
 badSource:s.badSource.length=p.sources.length
 earthed:(s.earthed.length:Int)=p.buses
 badBus:(s.badBus.length:Int)=p.buses
 cable: ∀i,i<p.links.length→(at' p.links i).kind=1→at' s.closed i=true∧at' s.locked i=false
theorem EN {b:Int} {x:Source}:pI b x=true↔O3 b x:=by
 simp only [pI,Bool.and_eq_true,xJ]
 exact⟨fun⟨⟨⟨⟨h1,h2⟩,h3⟩,h4⟩,h5⟩=> ⟨by omega,h2,h3,h4,h5⟩,fun h=> ⟨⟨⟨⟨by have:=h.bus;omega,h.kind⟩,h.power⟩,h.sync⟩,h.ohm⟩⟩
theorem Ee {b:Int} {x:aG}:lG b x=true↔VR b x:=by
 simp only [lG,Bool.and_eq_true,xJ,Bool.not_eq_true',decide_eq_false_iff_not]
 exact⟨fun⟨⟨⟨⟨h1,h2⟩,h3⟩,h4⟩,h5⟩=> ⟨by omega,by omega,h3,h4,h5⟩,fun h=> ⟨⟨⟨⟨by have:=h.e0;omega,by have:=h.e1;omega⟩,h.ne⟩,h.power⟩,h.paths⟩⟩
theorem Cr {b:Int} {x:Link}:lF b x=true↔VL b x:=by
 simp only [lF,Bool.and_eq_true,xJ,Bool.not_eq_true',decide_eq_false_iff_not,Bool.or_eq_true,decide_eq_true_eq,List.any_eq_false,List.mem_range,Bool.not_eq_true]
 constructor
 ·rintro ⟨⟨⟨⟨⟨⟨⟨⟨h1,h2⟩,h3⟩,h4⟩,h5⟩,h6⟩,h7⟩,h8⟩,h9⟩
  exact⟨by omega,by omega,h3,h4,h5,h6,by omega,h7,h9.imp (fun h=>List.eq_nil_of_length_eq_zero (by omega)) id⟩
 ·intro h
  refine⟨⟨⟨⟨⟨⟨⟨⟨by have:=h.a;omega,by have:=h.b;omega⟩,h.ab⟩,h.kind⟩,h.most⟩,h.ohm⟩,h.trip⟩,by have:=h.tl;omega⟩,h.trk.imp (fun e=>by simp [e]) id⟩
theorem iB {p:au}:jd p=0↔VP p:=by
 unfold jd
 constructor
 ·intro h
  cases h0:wi p.buses 1 24 with
  |false=>rw [h0]at h;simp at h
  |true=>
   rw [h0]at h
   cases h1:(decide ((p.sources.length:Int)≤8) && p.sources.all (pI p.buses))with
   |false=>rw [h1]at h;simp at h
   |true=>
    rw [h1]at h
    cases h2:(decide ((p.links.length:Int)≤40) && p.links.all (lF p.buses))with
    |false=>rw [h2]at h;simp at h
    |true=>
     rw [h2]at h
     cases h3:(decide ((p.racks.length:Int)≤24) && p.racks.all (lG p.buses))with
     |false=>rw [h3]at h;simp at h
     |true=>
      simp only [Bool.and_eq_true,decide_eq_true_eq,List.all_eq_true]at h1 h2 h3
      exact⟨xJ.mp h0,by omega,fun i hi=>EN.mp (h1.2 _ (at_mem hi)),by omega,fun i hi=>Cr.mp (h2.2 _ (at_mem hi)),by omega,fun i hi=>Ee.mp (h3.2 _ (at_mem hi))⟩
 ·intro h
  have h0:wi p.buses 1 24=true:=xJ.mpr h.b
  have h1:(decide ((p.sources.length:Int)≤8) && p.sources.all (pI p.buses))=true:=by
   simp only [Bool.and_eq_true,decide_eq_true_eq,List.all_eq_true]
   exact⟨by have:=h.sl;omega,fun x hx=>by obtain⟨i,hi,rfl⟩:=fH hx;exact EN.mpr (h.src i hi)⟩
  have h2:(decide ((p.links.length:Int)≤40) && p.links.all (lF p.buses))=true:=by
   simp only [Bool.and_eq_true,decide_eq_true_eq,List.all_eq_true]
   exact⟨by have:=h.ll;omega,fun x hx=>by obtain⟨i,hi,rfl⟩:=fH hx;exact Cr.mpr (h.lnk i hi)⟩
  have h3:(decide ((p.racks.length:Int)≤24) && p.racks.all (lG p.buses))=true:=by
   simp only [Bool.and_eq_true,decide_eq_true_eq,List.all_eq_true]
   exact⟨by have:=h.rl;omega,fun x hx=>by obtain⟨i,hi,rfl⟩:=fH hx;exact Ee.mpr (h.rck i hi)⟩
  rw [h0,h1,h2,h3];rfl
theorem VP.small {p:au} (h:VP p):Small p:=by
 refine⟨by have:=h.sl;omega,by have:=h.ll;omega,by have:=h.rl;omega,fun x hx=> ?_⟩
 obtain⟨i,hi,rfl⟩:=fH hx
 have:=(h.lnk i hi).tl;omega
theorem uX {p:au} {s:State}:tZ p s=0↔VP p∧VS p s:=by
 unfold tZ
 by_cases hc:jd p=0
 ·rw [if_neg (by simp [hc])]
  have hv:=iB.mp hc
  constructor
  ·intro h
   cases h1:(mQ p s && !(List.range p.links.length).any (jy p s))with
   |false=>rw [h1]at h;simp at h
   |true=>
    simp only [mQ,Bool.and_eq_true,decide_eq_true_eq,Bool.not_eq_true',List.any_eq_false,List.mem_range,jy,Bool.or_eq_true,not_and,not_or,Bool.not_eq_true]at h1
    obtain⟨⟨⟨⟨⟨⟨⟨h1,h2⟩,h3⟩,h4⟩,h5⟩,h6⟩,h7⟩,h8⟩:=h1
    exact⟨hv,h1,h2,h3,h4,h5,h6,h7,fun i hi hk=>by have:=h8 i hi hk;simpa using this⟩
  ·rintro ⟨_,h⟩
   have:(mQ p s && !(List.range p.links.length).any (jy p s))=true:=by
    simp only [mQ,Bool.and_eq_true,decide_eq_true_eq,Bool.not_eq_true',List.any_eq_false,List.mem_range,jy,Bool.or_eq_true,not_and,not_or,Bool.not_eq_true]
    exact⟨⟨⟨⟨⟨⟨⟨h.closed,h.locked⟩,h.badLink⟩,h.on⟩,h.badSource⟩,h.earthed⟩,h.badBus⟩,fun i hi hk=>by have:=h.cable i hi hk;simpa using this⟩
   rw [this];rfl
 ·rw [if_pos hc]
  exact⟨fun h=>absurd h hc,fun h=>absurd (iB.mpr h.1) hc⟩
theorem yY {α:Type} [Inhabited α] {ρ:Type} {body:Int→Option (cO Int (Ex Unit ρ))} (l:List α) (hl:l.length≤9223372036854775807) (hb: ∀t:Nat,t<l.length→body (t:Int)=some (.next ((t:Int)+1))) (he:body (l.length:Int)=some (.done (.brk ()))):aR body FUEL 0=some (.brk ()):=
 nO (fun t=>(t:Int)) l.length _ (fuel_lt hl) (fun t ht=>by rw [hb t ht];rfl) he
theorem gU (a b:List Bool) (ha:a.length≤9223372036854775807):bX a b=some (decide (a=b)):=by
 unfold bX
 by_cases hl:a.length=b.length
 ·have h1:decide ((a.length:Int)=(b.length:Int))=true:=decide_eq_true (by omega)
  rw [h1]
  simp only [Bool.not_true,cond_false]
  have key:aR (ic a b) FUEL 0=some (match(List.range a.length).find? (fun i=> !(at' a i==at' b i))with|some _=> .ret false|none=> .brk ()):=by
   refine mE a.length (fun i=> !(at' a i==at' b i)) (fun _=>false) ha (fun i hi=> ?_) ?_
   ·unfold ic
    have h1:decide ((i:Int)<(a.length:Int))=true:=decide_eq_true (by omega)
    rw [h1,cond_true,bD (by omega),Int.toNat_natCast,wr (by omega)]
    exact Cm _ _ _
   ·unfold ic;simp
  rw [key]
  cases hf:(List.range a.length).find? (fun i=> !(at' a i==at' b i))with
  |none=>
   rw [List.find?_eq_none]at hf
   have:a=b:=Ul hl fun i hi=>by
    have:=hf i (List.mem_range.mpr hi);simpa using this
   simp [this]
  |some k=>
   have hk:=List.mem_of_find?_eq_some hf
   have hp:=List.find?_some hf
   have:a≠b:=by intro e;subst e;simp at hp
   simp [this]
 ·have h1:decide ((a.length:Int)=(b.length:Int))=false:=decide_eq_false (by omega)
  have h2:a≠b:=fun e=>hl (by rw [e])
  rw [h1];simp [h2]
structure Ti (s:State):Prop where
 l0:s.closed.length≤140737488351232
 l1:s.locked.length≤140737488351232
 l2:s.badLink.length≤140737488351232
 l3:s.on_.length≤140737488351232
 l4:s.badSource.length≤140737488351232
 l5:s.earthed.length≤140737488351232
 l6:s.badBus.length≤140737488351232
theorem CW (a:State) (h:Ti a):gu a a=some true:=by
 obtain⟨h0,h1,h2,h3,h4,h5,h6⟩:=h
 unfold gu
 rw [gU _ _ (by omega),gU _ _ (by omega),gU _ _ (by omega),gU _ _ (by omega),gU _ _ (by omega),gU _ _ (by omega),gU _ _ (by omega)]
 simp [gB]
theorem VS.room {p:au} {s:State} (hp:VP p) (h:VS p s):Ti s:=by
 have h1:=hp.ll;have h2:=hp.sl;have h3:=hp.b
 obtain⟨a1,a2,a3,a4,a5,a6,a7,_⟩:=h
 exact⟨by omega,by omega,by omega,by omega,by omega,by omega,by omega⟩
theorem Gf:dI=some true:=by kernel_rfl
theorem Jy {c:UInt8} {s:List UInt8} (h:c ∉ s):Lib.index s [c]= -1:=by
 rw [Lib.index_one]
 induction s with
 |nil=>rfl
 |cons b l ih=>
  have hb:b≠c:=fun e=>h (e ▸ List.mem_cons_self)
  have hl:c ∉ l:=fun e=>h (List.mem_cons_of_mem _ e)
  unfold Lib.indexByte
  simp [hb,ih hl]
theorem LC {c:UInt8} {a r:List UInt8} (h:c ∉ a):Lib.index (a++c::r) [c]=(a.length:Int):=by
 rw [Lib.index_one]
 induction a with
 |nil=>simp [Lib.indexByte]
 |cons b l ih=>
  have hb:b≠c:=fun e=>h (e ▸ List.mem_cons_self)
  have hl:c ∉ l:=fun e=>h (List.mem_cons_of_mem _ e)
  rw [List.cons_append,Lib.indexByte,ih hl]
  have h1: ¬ ((l.length:Int)== -1)=true:=by rw [beq_iff_eq];omega
  have h2: ¬ (b==c)=true:=by rw [beq_iff_eq];exact hb
  rw [if_neg h2,if_neg h1];simp
theorem vz {c:UInt8} {a r:List UInt8} (h:c ∉ a):Lib.cut (a++c::r) [c]=(a,r,true):=by
 unfold Lib.cut
 rw [LC h,if_pos (by omega)]
 simp
theorem Dw {c:UInt8} {s:List UInt8} (h:c ∉ s):Lib.cut s [c]=(s,[],false):=by
 unfold Lib.cut
 rw [Jy h,if_neg (by omega)]
def bJ (c:UInt8):List UInt8→List (List UInt8)
 |[]=>[[]]
 |b::l=>if b=c then []::bJ c l else(b::(bJ c l).headD [])::(bJ c l).tail
def joinL (c:UInt8):List (List UInt8)→List UInt8
 |[]=>[]
 |[w]=>w
 |w::v::ws=>w++c::joinL c (v::ws)
theorem oh {c:UInt8}: ∀{s:List UInt8},c ∉ s→bJ c s=[s]
 |[],_=>rfl
 |b::l,h=>by
  have hb:b≠c:=fun e=>h (e ▸ List.mem_cons_self)
  have hl:c ∉ l:=fun e=>h (List.mem_cons_of_mem _ e)
  rw [bJ,if_neg hb,oh hl];rfl
theorem nN {c:UInt8} {r:List UInt8}: ∀{a:List UInt8},c ∉ a→bJ c (a++c::r)=a::bJ c r
 |[],_=>by rw [List.nil_append,bJ,if_pos rfl]
 |b::l,h=>by
  have hb:b≠c:=fun e=>h (e ▸ List.mem_cons_self)
  have hl:c ∉ l:=fun e=>h (List.mem_cons_of_mem _ e)
  rw [List.cons_append,bJ,if_neg hb,nN hl];rfl
theorem Ic (c:UInt8) (s:List UInt8):bJ c s≠[]:=by
 cases s with
 |nil=>intro h;cases h
 |cons b l=>rw [bJ];split<;>(intro h;cases h)
theorem Ak (c:UInt8) {P:List UInt8→Prop} (h0: ∀s,c ∉ s→P s) (h1: ∀a r,c ∉ a→P r→P (a++c::r)): ∀(n:Nat) (s:List UInt8),s.length≤n→P s
 |n,s,hn=>by
  by_cases h:c∈s
  ·obtain⟨a,r,rfl,ha⟩:=List.eq_append_cons_of_mem h
   match n,hn with
   |0,hn=>simp at hn
   |n+1,hn=>exact h1 a r ha (Ak c h0 h1 n r (by simp at hn;omega))
  ·exact h0 s h
theorem join_cons (c:UInt8) (w:List UInt8) {ws:List (List UInt8)} (h:ws≠[]):joinL c (w::ws)=w++c::joinL c ws:=by
 cases ws with
 |nil=>exact absurd rfl h
 |cons v vs=>rfl
theorem KT (c:UInt8) (s:List UInt8):joinL c (bJ c s)=s:=by
 refine Ak c (P:=fun s=>joinL c (bJ c s)=s) (fun s h=> ?_) (fun a r ha ih=> ?_) s.length s (Nat.le_refl _)
 ·rw [oh h];rfl
 ·rw [nN ha,join_cons c a (Ic c r),ih]
theorem Ea (c:UInt8): ∀{ws:List (List UInt8)},ws≠[]→(∀w,w∈ws→c ∉ w)→bJ c (joinL c ws)=ws
 |[],h,_=>absurd rfl h
 |[w],_,h=>oh (h w List.mem_cons_self)
 |w::v::ws,_,h=>by
  rw [join_cons c w (by simp),nN (h w List.mem_cons_self),Ea c (by simp) fun x hx=>h x (List.mem_cons_of_mem _ hx)]
theorem zF (s:ByteArray):sb s.data.toList=s:=by
 obtain⟨⟨l⟩⟩:=s;rfl
theorem Dg {a b:List UInt8} (h:sb a=sb b):a=b:=by
 have:=congrArg (fun s:ByteArray=>s.data.toList) h
 simpa [sb]using this
theorem uF (l:List UInt8):(sb l).size=l.length:=by simp [sb,ByteArray.size]
theorem o9 (l:List UInt8):(sb l).data.toList=l:=by simp [sb]
theorem Fj (c:UInt8): ∀(k:Nat) (s:ByteArray),Lib.countB s ⟨#[c]⟩=k→Lib.splitB ⟨#[c]⟩ 0 k s=(bJ c s.data.toList).map sb
 |k,s,hk=>by
  have hcnt:s.data.toList.count c=k:=by
   rw [←hk];exact(Lib.count_one c _).symm
  by_cases h:c∈s.data.toList
  ·obtain⟨a,r,e,ha⟩:=List.eq_append_cons_of_mem h
   match k,hk,hcnt with
   |0,_,hcnt=>rw [List.count_eq_zero]at hcnt;exact absurd h hcnt
   |k+1,hk,hcnt=>
    have hi:Lib.indexB s ⟨#[c]⟩=((a.length:Nat):Int):=by
     show Lib.index s.data.toList [c]=_
     rw [e,LC ha]
    have hsz:s.size=a.length+(1+r.length):=by
     have:=congrArg List.length e
     simp at this;omega
    have e1:(s.extract 0 (a.length+0))=sb a:=by
     rw [←zF (s.extract 0 (a.length+0)),Lib.extract_data,e];simp
    have e2:(s.extract (a.length+(⟨#[c]⟩:ByteArray).size) s.size)=sb r:=by
     rw [←zF (s.extract _ _),Lib.extract_data,e,hsz]
     have:(⟨#[c]⟩:ByteArray).size=1:=rfl
     rw [this]
     simp only [List.drop_append,List.drop_eq_nil_of_le (show a.length≤a.length+1 by omega),List.nil_append]
     rw [show a.length+1 - a.length=1 by omega,List.drop_one,List.tail_cons,List.take_of_length_le (by omega)]
    rw [Lib.splitB_hit _ _ _ _ _ hi,e1,e2,Fj c k (sb r),e,nN ha,o9]
    ·rfl
    ·show Lib.count (sb r).data.toList [c]=k
     rw [Lib.count_one,o9]
     rw [e,List.count_append,List.count_cons_self,List.count_eq_zero.2 ha]at hcnt;omega
  ·have hi:Lib.indexB s ⟨#[c]⟩= -1:=by
    show Lib.index s.data.toList [c]= -1
    exact Jy h
   rw [Lib.splitB_miss _ _ _ _ hi,oh h,List.map_cons,zF];rfl
 termination_by k=>k
theorem JI {c:UInt8} {s:ByteArray} (hs:s.size<4294967281):gy s ⟨#[c]⟩=some ((bJ c s.data.toList).map sb):=by
 unfold gy
 rw [decide_eq_true hs]
 show some (Lib.splitB _ 0 _ _)=_
 rw [Fj c _ s rfl]
theorem yV (b:UInt8): ∀(l:List UInt8) (acc:Nat),Lib.decFrom acc (l++[b])=(Lib.decFrom acc l).bind fun n=>(Lib.digitVal b).map fun d=>n*10+d
 |[],acc=>by
  simp only [List.nil_append,Lib.decFrom,Option.bind_some]
  cases Lib.digitVal b<;>rfl
 |x::l,acc=>by
  rw [List.cons_append,Lib.decFrom,Lib.decFrom]
  cases Lib.digitVal x with
  |none=>rfl
  |some d=>exact yV b l _
theorem Ie {u:Nat} (h:u<10):Lib.digitVal (UInt8.ofNat (48+u))=some u:=by
 have e:(UInt8.ofNat (48+u)).toNat=48+u:=by rw [UInt8.toNat_ofNat'];omega
 unfold Lib.digitVal
 rw [e,if_pos ⟨by omega,by omega⟩]
 congr 1;omega
theorem uE (u:Nat):Lib.decFrom 0 (Lib.decDigits u)=some u:=by
 induction u using Nat.strongRecOn with
 |_ u ih=>
  rw [Lib.decDigits]
  split
  ·rename_i h
   simp only [Lib.decFrom,Ie h,Nat.zero_mul,Nat.zero_add]
  ·rename_i h
   rw [yV,ih (u / 10) (by omega),Option.bind_some,Ie (Nat.mod_lt _ (by decide))]
   show some (u / 10*10+u % 10)=some u
   congr 1;omega
theorem Fp (u:Nat):Lib.decDigits u≠[]:=by
 rw [Lib.decDigits];split
 ·simp
 ·simp
theorem wW (u:Nat): ∀b,b∈Lib.decDigits u→48≤b.toNat∧b.toNat≤57:=by
 have key: ∀v,v<10→48≤(UInt8.ofNat (48+v)).toNat∧(UInt8.ofNat (48+v)).toNat≤57:=fun v hv=>by
  rw [UInt8.toNat_ofNat'];omega
 induction u using Nat.strongRecOn with
 |_ u ih=>
  intro b hb
  rw [Lib.decDigits]at hb
  split at hb
  ·rename_i h
   rw [List.mem_singleton]at hb;subst hb;exact key u h
  ·rename_i h
   rcases List.mem_append.1 hb with hb|hb
   ·exact ih (u / 10) (by omega) b hb
   ·rw [List.mem_singleton]at hb;subst hb;exact key _ (Nat.mod_lt _ (by decide))
theorem He: ∀(k u:Nat),u<10 ^ (k+1)→Lib.nDigits u≤k+1
 |0,u,h=>by rw [Lib.nDigits_small (by simpa using h)];omega
 |k+1,u,h=>by
  by_cases h1:u<10
  ·rw [Lib.nDigits_small h1];omega
  ·rw [Lib.nDigits_big h1]
   have:=He k (u / 10) (by rw [Nat.pow_succ]at h;omega)
   omega
theorem Pn (v:Int): ∀b,b∈Lib.itoa v→b.toNat=45∨(48≤b.toNat∧b.toNat≤57):=by
 intro b hb
 unfold Lib.itoa at hb
 split at hb
 ·rcases List.mem_cons.1 hb with rfl|hb
  ·exact .inl rfl
  ·exact .inr (wW _ b hb)
 ·exact .inr (wW _ b hb)
theorem F8 {c:UInt8} (hc:c.toNat≠45∧(c.toNat<48∨57<c.toNat)) (v:Int):c ∉ Lib.itoa v:=fun h=>by
 rcases Pn v c h with h|h<;>omega
theorem MJ (v:Int):Lib.atoi (Lib.itoa v)=some v:=by
 unfold Lib.itoa
 split
 ·rename_i h
  show Option.map (fun m:Nat=> -(m:Int)) (Lib.decNat (Lib.decDigits v.natAbs))=some v
  rw [Lib.decNat,if_neg (by simp [Fp]),uE]
  show some (-((v.natAbs:Nat):Int))=some v
  congr 1;omega
 ·rename_i h
  have hne:=Fp v.toNat
  have hm:=wW v.toNat
  have hd:Lib.decNat (Lib.decDigits v.toNat)=some v.toNat:=by
   rw [Lib.decNat,if_neg (by simp [hne]),uE]
  cases hl:Lib.decDigits v.toNat with
  |nil=>exact absurd hl hne
  |cons b r=>
   rw [hl]at hm hd
   have hb:=hm b List.mem_cons_self
   have h1: ¬ (b==45)=true:=by rw [beq_iff_eq];intro e;subst e;simp at hb
   have h2: ¬ (b==43)=true:=by rw [beq_iff_eq];intro e;subst e;simp at hb
   unfold Lib.atoi
   simp only [h1,h2,if_false,hd,Option.map_some,Bool.false_eq_true]
   congr 1;omega
theorem HZ {v:Int} (h: -999999999≤v∧v≤999999999):(Lib.itoa v).length≤10∧(Lib.trimPrefix (Lib.itoa v) [45]).length≤9:=by
 unfold Lib.itoa
 split
 ·have hn:=He 8 v.natAbs (by omega)
  have e:Lib.trimPrefix (45::Lib.decDigits v.natAbs) [45]=Lib.decDigits v.natAbs:=by
   unfold Lib.trimPrefix;simp [Lib.hasPrefix]
  rw [e,List.length_cons,Lib.decDigits_length];omega
 ·have hn:=He 8 v.toNat (by omega)
  have hl:(Lib.decDigits v.toNat).length≤9:=by rw [Lib.decDigits_length];omega
  refine⟨by omega, ?_⟩
  unfold Lib.trimPrefix
  split
  ·rw [List.length_drop];omega
  ·exact hl
theorem KH {v:Int} (h: -999999999≤v∧v≤999999999):numOf (sb (Lib.itoa v))=some v:=by
 have hl:=HZ h
 unfold numOf
 rw [o9,Lib.atoiAll_short _ (by omega),MJ]
 show(bif decide (sb (Lib.itoa v)=sb (Lib.itoa v)) && decide ((Lib.trimPrefix (Lib.itoa v) [45]).length≤9)then some v else none)=some v
 rw [decide_eq_true rfl,decide_eq_true hl.2];rfl
theorem J4 {s:ByteArray} {v:Int} (h:numOf s=some v):s=sb (Lib.itoa v):=by
 unfold numOf at h
 split at h
 ·rename_i u hu
  cases h1:decide (sb (Lib.itoa u)=s)with
  |false=>rw [h1]at h;cases h
  |true=>
   rw [h1,Bool.true_and]at h
   cases h2:decide ((Lib.trimPrefix s.data.toList [45]).length≤9)with
   |false=>rw [h2]at h;cases h
   |true=>rw [h2]at h;cases h;exact(of_decide_eq_true h1).symm
 ·cases h
theorem Mv (a b:Bool):(bif a then true else b)=(a||b):=by cases a<;>rfl
theorem UU {a b:Int} (h:a<b):decide (a<b)=true:=decide_eq_true h
theorem RJ {a b:Int} (h:b≤a):decide (a<b)=false:=decide_eq_false (by omega)
def Qd (p:au):Bool:=decide (60<(p.sources.length:Int))||decide (60<(p.links.length:Int))||decide (60<(p.racks.length:Int))||p.links.any fun x=>decide (20<(x.trip.length:Int))
theorem TW (p:au):pu p=some (Qd p):=by
 unfold pu Qd
 rw [Mv,Mv]
 cases h:(decide (60<(p.sources.length:Int))||decide (60<(p.links.length:Int))||decide (60<(p.racks.length:Int)))with
 |true=>rfl
 |false=>
  rw [cond_false,Bool.false_or]
  simp only [Bool.or_eq_false_iff,decide_eq_false_iff_not]at h
  have key:aR (kX p) FUEL 0=some (match(List.range p.links.length).find? (fun i=>decide (20<((at' p.links i).trip.length:Int)))with|some _=> .ret true|none=> .brk ()):=by
   refine mE p.links.length (fun i=>decide (20<((at' p.links i).trip.length:Int))) (fun _=>true) (by omega) (fun i hi=> ?_) ?_
   ·unfold kX
    rw [UU (by omega),cond_true,bD (by omega),Int.toNat_natCast,wr (by omega)]
    exact Cm _ _ _
   ·unfold kX;simp
  rw [key]
  cases hf:(List.range p.links.length).find? (fun i=>decide (20<((at' p.links i).trip.length:Int)))with
  |none=>
   rw [List.find?_eq_none]at hf
   have:(p.links.any fun x=>decide (20<(x.trip.length:Int)))=false:=by
    rw [List.any_eq_false]
    intro x hx
    obtain⟨i,hi,e⟩:=fH hx
    have:=hf i (List.mem_range.mpr hi);rw [e]at this;exact this
   rw [this];rfl
  |some i=>
   have hi:=List.mem_range.1 (List.mem_of_find?_eq_some hf)
   have hq:=List.find?_some hf
   have:(p.links.any fun x=>decide (20<(x.trip.length:Int)))=true:=List.any_eq_true.2 ⟨_,at_mem hi,hq⟩
   rw [this];rfl
structure QA (p:au):Prop where
 src:p.sources.length≤60
 lnk:p.links.length≤60
 rck:p.racks.length≤60
 trp: ∀x∈p.links,x.trip.length≤20
theorem Yj {p:au} (h:Qd p=false):QA p:=by
 unfold Qd at h
 simp only [Bool.or_eq_false_iff,decide_eq_false_iff_not]at h
 obtain⟨⟨⟨h1,h2⟩,h3⟩,h4⟩:=h
 rw [List.any_eq_false]at h4
 exact⟨by omega,by omega,by omega,fun x hx=>by have:=h4 x hx;simp only [decide_eq_true_eq]at this;omega⟩
theorem QA.small {p:au} (h:QA p):Small p:=⟨by have:=h.src;omega,by have:=h.lnk;omega,by have:=h.rck;omega,fun x hx=>by have:=h.trp x hx;omega⟩
theorem Aw (l:List Source) (h:l.length≤1000000):jl l l=some true:=by
 have key:aR (gH l l) FUEL 0=some (.brk ()):=by
  refine yY l (by omega) (fun t ht=> ?_) ?_
  ·unfold gH
   rw [UU (by omega),cond_true,bD ⟨by omega,by omega⟩,wr (by omega)]
   simp
  ·unfold gH
   rw [RJ (by omega)];rfl
 unfold jl
 simp [key]
theorem BI (l:List aW) (h:l.length≤1000000):j4 l l=some true:=by
 have key:aR (iK l l) FUEL 0=some (.brk ()):=by
  refine yY l (by omega) (fun t ht=> ?_) ?_
  ·unfold iK
   rw [UU (by omega),cond_true,bD ⟨by omega,by omega⟩,wr (by omega)]
   simp
  ·unfold iK
   rw [RJ (by omega)];rfl
 unfold j4
 simp [key]
theorem Er (x:Link) (h:x.trip.length≤1000000):lq x x=some true:=by
 unfold lq
 simp only [decide_true,cond_true]
 rw [show gB [(true,true)]=true from rfl,cond_true,BI _ h];rfl
theorem DT (l:List Link) (h:l.length≤1000000) (ht: ∀x∈l,x.trip.length≤1000000):j5 l l=some true:=by
 have key:aR (iD l l) FUEL 0=some (.brk ()):=by
  refine yY l (by omega) (fun t hlt=> ?_) ?_
  ·unfold iD
   rw [UU (by omega),cond_true,Int.toNat_natCast,Er _ (ht _ (at_mem hlt)),Option.bind_some,bD ⟨by omega,by omega⟩,wr (by omega)]
   rfl
  ·unfold iD
   rw [RJ (by omega)];rfl
 unfold j5
 simp [key]
theorem Ci (l:List aG) (h:l.length≤1000000):ko l l=some true:=by
 have key:aR (iC l l) FUEL 0=some (.brk ()):=by
  refine yY l (by omega) (fun t ht=> ?_) ?_
  ·unfold iC
   rw [UU (by omega),cond_true,bD ⟨by omega,by omega⟩,wr (by omega)]
   simp
  ·unfold iC
   rw [RJ (by omega)];rfl
 unfold ko
 simp [key]
theorem BU {p:au} (h:QA p):j6 p p=some true:=by
 have h1:=h.src;have h2:=h.lnk;have h3:=h.rck
 unfold j6
 simp only [decide_true,cond_true]
 rw [show gB [(true,true)]=true from rfl,cond_true,Aw _ (by omega),Option.bind_some,show gB [(true,true)]=true from rfl,cond_true,DT _ (by omega) (fun x hx=>by have:=h.trp x hx;omega),Option.bind_some]
 simp only [cond_true]
 rw [show gB [(true,true)]=true from rfl,cond_true,Ci _ (by omega)];rfl
def fP (w:List UInt8):Option Int:=numOf (sb w)
theorem kz {w:List UInt8} (h:w.length≤1000000):aP (sb w)=some (fP w):=by
 unfold aP
 rw [uF,decide_eq_true h];rfl
theorem OO (a b:List UInt8):aS (sb a) (sb b)=decide (a=b):=by
 unfold aS
 rw [Bool.and_true,Bool.eq_iff_iff,decide_eq_true_iff]
 refine⟨fun h=>Dg (Qf h),fun h=> ?_⟩
 rw [h]
 show((sb b).data==(sb b).data)=true
 exact beq_self_eq_true _
def r9 (a b c:List UInt8) (w:List UInt8):Option Int:=if w=a then some 1 else if w=b then some 2 else if w=c then some 3 else none
def eH (w:List UInt8):Int:=if w=jb then 1 else if w=jH then 2 else if w=qz then 3 else if w=qg then 4 else 0
theorem Rx {κ α:Type} (eq:κ→κ→Bool) (k k':κ) (v:α) (l:List (κ × α)):aO eq k ((k',v)::l)=bif eq k k' then some v else aO eq k l:=rfl
theorem XM:jP=some [(sb vS,1),(sb EL,2),(sb Ew,3)]:=by kernel_rfl
theorem XU:kV=some [(sb BX,1),(sb Dx,2),(sb Cn,3)]:=by kernel_rfl
theorem XJ:pX=some [(sb jb,1),(sb jH,2),(sb qz,3),(sb qg,4)]:=by kernel_rfl
theorem S9 (a b c w:List UInt8):aO aS (sb w) [(sb a,(1:Int)),(sb b,2),(sb c,3)]=r9 a b c w:=by
 simp only [Rx,OO,aO,r9]
 by_cases h1:w=a
 ·rw [decide_eq_true h1,if_pos h1];rfl
 ·rw [decide_eq_false h1,if_neg h1,cond_false]
  by_cases h2:w=b
  ·rw [decide_eq_true h2,if_pos h2];rfl
  ·rw [decide_eq_false h2,if_neg h2,cond_false]
   by_cases h3:w=c
   ·rw [decide_eq_true h3,if_pos h3];rfl
   ·rw [decide_eq_false h3,if_neg h3];rfl
theorem Ta (w:List UInt8):((aO aS (sb w) [(sb jb,(1:Int)),(sb jH,2),(sb qz,3),(sb qg,4)]).isSome= !decide (eH w=0))∧(aO aS (sb w) [(sb jb,(1:Int)),(sb jH,2),(sb qz,3),(sb qg,4)]).getD 0=eH w:=by
 simp only [aO,OO]
 by_cases h1:w=jb
 ·have e:eH w=1:=if_pos h1
  rw [e,decide_eq_true h1];exact⟨rfl,rfl⟩
 ·by_cases h2:w=jH
  ·have e:eH w=2:=by unfold eH;rw [if_neg h1,if_pos h2]
   rw [e,decide_eq_false h1,decide_eq_true h2];exact⟨rfl,rfl⟩
  ·by_cases h3:w=qz
   ·have e:eH w=3:=by unfold eH;rw [if_neg h1,if_neg h2,if_pos h3]
    rw [e,decide_eq_false h1,decide_eq_false h2,decide_eq_true h3];exact⟨rfl,rfl⟩
   ·by_cases h4:w=qg
    ·have e:eH w=4:=by unfold eH;rw [if_neg h1,if_neg h2,if_neg h3,if_pos h4]
     rw [e,decide_eq_false h1,decide_eq_false h2,decide_eq_false h3,decide_eq_true h4];exact⟨rfl,rfl⟩
    ·have e:eH w=0:=by unfold eH;rw [if_neg h1,if_neg h2,if_neg h3,if_neg h4]
     rw [e,decide_eq_false h1,decide_eq_false h2,decide_eq_false h3,decide_eq_false h4];exact⟨rfl,rfl⟩
theorem TY (words:List (ByteArray × Int)) (w:ByteArray):iR words w=some (aO aS w words):=by
 unfold iR
 cases aO aS w words<;>rfl
theorem Ug (words:List (ByteArray × Int)) (w:ByteArray):fM words w=some (aO aS w words):=by
 unfold fM
 cases aO aS w words<;>rfl
theorem tK {R:Type} (k:Unit→Option R) (p:Option R):eu (dJ true) k p=k ():=rfl
theorem gV {R:Type} (k:Unit→Option R) (p:Option R):eu (dJ false) k p=p:=rfl
def wu (w:List UInt8):Option aW:=bif (Lib.cut w [58]).2.2 then(match fP (Lib.cut w [58]).1,fP (Lib.cut w [58]).2.1 with|some a,some m=>some ⟨a,m⟩|_,_=>none)else none
def kJ:List (List UInt8)→Option (List aW)
 |[]=>some []
 |w::ws=>match wu w,kJ ws with|some t,some l=>some (t::l)|_,_=>none
def rX (R rank:Int) (ws:List (List UInt8)) (p:au):Option (Int × au):=
 if R≠0∧rank≤R∧(1<R↔0<rank)then
  if R=1 then(match ws with|[_,b]=>(fP b).map fun n=>(1,⟨n,p.sources,p.links,p.racks⟩)|_=>none)
  else if R=2 then(match ws with
   |[_,a,b,c,d,e]=>(match fP a,r9 vS EL Ew b,fP c,fP d,fP e with|some a,some b,some c,some d,some e=>some (2,⟨p.buses,p.sources++[⟨a,b,c,d,e⟩],p.links,p.racks⟩)|_,_,_,_,_=>none)
   |_=>none)
  else if R=3 then(match ws with
   |_::a::b::c::d::e::ts=>(match fP a,fP b,r9 BX Dx Cn c,fP d,fP e,kJ ts with|some a,some b,some c,some d,some e,some l=>some (3,⟨p.buses,p.sources,p.links++[⟨a,b,c,d,e,l⟩],p.racks⟩)|_,_,_,_,_,_=>none)
   |_=>none)
  else(match ws with
   |[_,a,b,c,d]=>(match fP a,fP b,fP c,fP d with|some a,some b,some c,some d=>some (4,⟨p.buses,p.sources,p.links,p.racks++[⟨⟨a,b⟩,c,d⟩]⟩)|_,_,_,_=>none)
   |_=>none)
 else none
def rU (rank:Int) (ws:List (List UInt8)) (p:au):Option (Int × au):=rX (eH (ws.headD [])) rank ws p
theorem Jq (w:List UInt8) (c:UInt8):(Lib.cut w [c]).1.length≤w.length∧(Lib.cut w [c]).2.1.length≤w.length:=by
 by_cases h:c∈w
 ·obtain⟨a,r,rfl,ha⟩:=List.eq_append_cons_of_mem h
  rw [vz ha];simp;omega
 ·rw [Dw h];simp
theorem BK {w:List UInt8} {c:UInt8} (h:w.length<4294967281):bT (sb w) ⟨#[c]⟩=some (sb (Lib.cut w [c]).1,sb (Lib.cut w [c]).2.1,(Lib.cut w [c]).2.2):=by
 unfold bT
 rw [uF,decide_eq_true h,o9]
 rfl
theorem Fe (r:List ByteArray) (hl:r.length≤1000000): ∀(rest:List (List UInt8)) (t n:Nat) (acc:List aW),(∀w∈rest,w.length≤1000000)→(r.drop 6).drop t=rest.map sb→rest.length<n→acc.length+rest.length≤1000000→
  aR (eX r) n (acc,(t:Int))=some (match kJ rest with|some l=> .brk (acc++l)|none=> .ret none)
 |[],t,n,acc,_,hd,hn,_=>by
  match n,hn with
  |n+1,_=>
   have hle:r.length - 6≤t:=by
    have:=congrArg List.length hd
    simp only [List.length_drop,List.map_nil,List.length_nil]at this;omega
   have hb:eX r (acc,(t:Int))=some (.done (.brk acc)):=by
    unfold eX
    dsimp only
    rw [decide_eq_false (by omega)];rfl
   rw [aR,hb]
   show some _=some (Ex.brk (acc++[]))
   rw [List.append_nil]
 |w::rest,t,n,acc,hw,hd,hn,ha=>by
  match n,hn with
  |n+1,hn=>
   have hlt:t<(r.drop 6).length:=by
    rcases Nat.lt_or_ge t (r.drop 6).length with h|h
    ·exact h
    ·rw [List.drop_eq_nil_of_le h]at hd;cases hd
   have hlt':t<r.length - 6:=by simpa using hlt
   have hat:at' (r.drop 6) t=sb w:=by
    rw [List.drop_eq_getElem_cons hlt,List.map_cons]at hd
    rw [p8 hlt];exact(List.cons.inj hd).1
   have hd':(r.drop 6).drop (t+1)=rest.map sb:=by
    rw [List.drop_eq_getElem_cons hlt,List.map_cons]at hd
    exact(List.cons.inj hd).2
   have hwl:=hw w List.mem_cons_self
   have hcl:=Jq w 58
   have hal:acc.length+1+rest.length≤1000000:=by simp only [List.length_cons]at ha;omega
   have hb:eX r (acc,(t:Int))=some (match wu w with|some x=> .next (acc++[x],((t+1:Nat):Int))|none=> .done (.ret none)):=by
    unfold eX
    dsimp only
    rw [decide_eq_true (by omega),cond_true,bD ⟨by omega,by omega⟩,Int.toNat_natCast,hat,BK (by omega),Option.bind_some]
    dsimp only
    unfold wu
    cases hc:(Lib.cut w [58]).2.2 with
    |false=>rw [gV];rfl
    |true=>
     rw [tK,kz (by omega),kz (by omega),cond_true]
     cases fP (Lib.cut w [58]).1 with
     |none=>rfl
     |some a=>
      cases fP (Lib.cut w [58]).2.1 with
      |none=>rfl
      |some m=>
       show bU _ _=_
       rw [bD (by simp only [List.length_singleton];omega),wr (by omega)]
       rfl
   rw [aR,hb]
   unfold kJ
   cases wu w with
   |none=>rfl
   |some x=>
    show aR _ n (acc++[x],((t+1:Nat):Int))=_
    rw [Fe r hl rest (t+1) n (acc++[x]) (fun v hv=>hw v (List.mem_cons_of_mem _ hv)) hd' (by simp at hn;omega) (by simp;omega)]
    cases kJ rest with
    |none=>rfl
    |some l=>simp
theorem wX (c:UInt8) (s:List UInt8):(∀w,w∈bJ c s→w.length≤s.length)∧(bJ c s).length≤s.length+1:=by
 refine Ak c (P:=fun s=>(∀w,w∈bJ c s→w.length≤s.length)∧(bJ c s).length≤s.length+1) (fun s h=> ?_) (fun a r ha ih=> ?_) s.length s (Nat.le_refl _)
 ·rw [oh h];simp
 ·rw [nN ha]
  refine⟨fun w hw=> ?_, ?_⟩
  ·rcases List.mem_cons.1 hw with rfl|hw
   ·simp
   ·have:=ih.1 w hw;simp;omega
  ·have:=ih.2;simp;omega
theorem AV (w:List UInt8):0≤eH w∧eH w≤4:=by
 unfold eH;split
 ·omega
 ·split
  ·omega
  ·split
   ·omega
   ·split<;>omega
theorem NS (R rank:Int):(bif (bif (!decide (R=0))then(decide (rank≤R))else false)then((decide (1<R))==(decide (0<rank)))else false)=decide (R≠0∧rank≤R∧(1<R↔0<rank)):=by
 rw [Bool.eq_iff_iff,decide_eq_true_iff]
 by_cases h0:R=0
 ·simp [h0]
 ·by_cases h1:rank≤R
  ·simp [h0,h1]
  ·simp [h0,h1]
theorem dM {T R:Type} (y:T) (k:T→Option R) (p:Option R):eu (some (some y)) k p=k y:=rfl
theorem dR {T R:Type} (k:T→Option R) (p:Option R):eu (some none) k p=p:=rfl
structure Rm (p:au):Prop where
 s:p.sources.length≤500000
 l:p.links.length≤500000
 r:p.racks.length≤500000
set_option maxHeartbeats 1000000 in
theorem LG (rank:Int) {s:List UInt8} (hs:s.length≤200000) {p:au} (hp:Rm p):ni rank (sb s) p=some (rU rank (bJ 32 s) p):=by
 have h1:=wX 32 s
 have hne:=Ic 32 s
 unfold ni
 rw [JI (by rw [uF];omega),Option.bind_some,XJ,Option.bind_some,o9]
 obtain⟨hp1,hp2,hp3⟩:=hp
 generalize bJ 32 s=ws at h1 hne
 obtain⟨hw,hl⟩:=h1
 cases ws with
 |nil=>exact absurd rfl hne
 |cons w0 ws=>
  rw [show at' ((w0::ws).map sb) 0=sb w0 from rfl,(Ta w0).1,(Ta w0).2,bD (by simp),NS]
  have hR:=AV w0
  have n: ∀w,w∈ws→w.length≤1000000:=fun w h=>Nat.le_trans (hw w (List.mem_cons_of_mem _ h)) (by omega)
  show _=some (rX (eH w0) rank (w0::ws) p)
  unfold rX
  by_cases hc:eH w0≠0∧rank≤eH w0∧(1<eH w0↔0<rank)
  ·rw [decide_eq_true hc,tK,if_pos hc]
   by_cases r1:eH w0=1
   ·rw [decide_eq_true r1,cond_true,if_pos r1]
    match ws,n with
    |[],_=>rw [decide_eq_false (by simp),gV]
    |[b],n=>
     rw [decide_eq_true (by simp),tK,show at' ([w0,b].map sb) 1=sb b from rfl,kz (n b (by simp))]
     dsimp only
     cases fP b with
     |none=>
      simp only [dM,dR]
      show bU _ _=_
      exact(bD (by simp) _).trans rfl
     |some v=>
      rw [r1]
      simp only [dM,dR]
      show bU _ _=_
      exact(bD (by simp) _).trans rfl
    |b::c::ws,_=>rw [decide_eq_false (by simp;omega),gV]
   ·rw [decide_eq_false r1,cond_false,if_neg r1]
    by_cases r2:eH w0=2
    ·rw [decide_eq_true r2,cond_true,if_pos r2]
     match ws,n with
     |[],_=>rw [decide_eq_false (by simp),gV]
     |[_],_=>rw [decide_eq_false (by simp),gV]
     |[_,_],_=>rw [decide_eq_false (by simp),gV]
     |[_,_,_],_=>rw [decide_eq_false (by simp),gV]
     |[_,_,_,_],_=>rw [decide_eq_false (by simp),gV]
     |[a,b,c,d,e],n=>
      rw [decide_eq_true (by simp),tK,show at' ([w0,a,b,c,d,e].map sb) 1=sb a from rfl,show at' ([w0,a,b,c,d,e].map sb) 2=sb b from rfl,show at' ([w0,a,b,c,d,e].map sb) 3=sb c from rfl,show at' ([w0,a,b,c,d,e].map sb) 4=sb d from rfl,show at' ([w0,a,b,c,d,e].map sb) 5=sb e from rfl,
       kz (n a (by simp)),kz (n c (by simp)),kz (n d (by simp)),kz (n e (by simp)),XM]
      dsimp only
      cases fP a with
      |none=>
       simp only [dM,dR]
       show bU _ _=_
       exact(bD (by simp) _).trans rfl
      |some a=>
       show eu (iR _ (sb b)) _ _=_
       rw [TY,S9]
       cases r9 vS EL Ew b with
       |none=>
        simp only [dM,dR]
        show bU _ _=_
        exact(bD (by simp) _).trans rfl
       |some b=>
        cases fP c with
        |none=>
         simp only [dM,dR]
         show bU _ _=_
         exact(bD (by simp) _).trans rfl
        |some c=>
         cases fP d with
         |none=>
          simp only [dM,dR]
          show bU _ _=_
          exact(bD (by simp) _).trans rfl
         |some d=>
          cases fP e with
          |none=>
           simp only [dM,dR]
           show bU _ _=_
           exact(bD (by simp) _).trans rfl
          |some e=>
           rw [r2]
           simp only [dM,dR]
           show bU _ _=_
           exact(bD (by simp;omega) _).trans rfl
     |_::_::_::_::_::_::ws,_=>rw [decide_eq_false (by simp;omega),gV]
    ·rw [decide_eq_false r2,cond_false,if_neg r2]
     by_cases r3:eH w0=3
     ·rw [decide_eq_true r3,cond_true,if_pos r3]
      match ws,n with
      |[],_=>rw [decide_eq_false (by simp),gV]
      |[_],_=>rw [decide_eq_false (by simp),gV]
      |[_,_],_=>rw [decide_eq_false (by simp),gV]
      |[_,_,_],_=>rw [decide_eq_false (by simp),gV]
      |[_,_,_,_],_=>rw [decide_eq_false (by simp),gV]
      |a::b::c::d::e::ts,n=>
       rw [decide_eq_true (by simp;omega),tK,show at' ((w0::a::b::c::d::e::ts).map sb) 1=sb a from rfl,show at' ((w0::a::b::c::d::e::ts).map sb) 2=sb b from rfl,show at' ((w0::a::b::c::d::e::ts).map sb) 3=sb c from rfl,show at' ((w0::a::b::c::d::e::ts).map sb) 4=sb d from rfl,show at' ((w0::a::b::c::d::e::ts).map sb) 5=sb e from rfl,
        kz (n a (by simp)),kz (n b (by simp)),kz (n d (by simp)),kz (n e (by simp)),XU]
       dsimp only
       have hlt:ts.length≤300000:=by simp at hl;omega
       have ht:=Fe ((w0::a::b::c::d::e::ts).map sb) (by simp;omega) ts 0 FUEL [] (fun w h=>n w (by simp [h])) rfl (by unfold FUEL;omega) (by simp;omega)
       cases fP a with
       |none=>
        simp only [dM,dR]
        show bU _ _=_
        exact(bD (by simp;omega) _).trans rfl
       |some a=>
        cases fP b with
        |none=>
         simp only [dM,dR]
         show bU _ _=_
         exact(bD (by simp;omega) _).trans rfl
        |some b=>
         show eu (fM _ (sb c)) _ _=_
         rw [Ug,S9]
         cases r9 BX Dx Cn c with
         |none=>
          simp only [dM,dR]
          show bU _ _=_
          exact(bD (by simp;omega) _).trans rfl
         |some c=>
          cases fP d with
          |none=>
           simp only [dM,dR]
           show bU _ _=_
           exact(bD (by simp;omega) _).trans rfl
          |some d=>
           cases fP e with
           |none=>
            simp only [dM,dR]
            show bU _ _=_
            exact(bD (by simp;omega) _).trans rfl
           |some e=>
            simp only [dM]
            show bU _ (bU _ (Option.bind (aR (eX _) FUEL ([],((0:Nat):Int))) _))=_
            rw [bD (by simp;omega),bD (by simp;omega),ht]
            cases kJ ts with
            |none=>rfl
            |some l=>
             rw [r3]
             simp only [dM,dR]
             show bU _ _=_
             exact(bD (by simp;omega) _).trans rfl
     ·have r4:eH w0=4:=by omega
      rw [decide_eq_false r3,cond_false,if_neg r3,decide_eq_true r4,cond_true]
      match ws,n with
      |[],_=>rw [decide_eq_false (by simp),gV]
      |[_],_=>rw [decide_eq_false (by simp),gV]
      |[_,_],_=>rw [decide_eq_false (by simp),gV]
      |[_,_,_],_=>rw [decide_eq_false (by simp),gV]
      |[a,b,c,d],n=>
       rw [decide_eq_true (by simp),tK,show at' ([w0,a,b,c,d].map sb) 1=sb a from rfl,show at' ([w0,a,b,c,d].map sb) 2=sb b from rfl,show at' ([w0,a,b,c,d].map sb) 3=sb c from rfl,show at' ([w0,a,b,c,d].map sb) 4=sb d from rfl,
        kz (n a (by simp)),kz (n b (by simp)),kz (n c (by simp)),kz (n d (by simp))]
       dsimp only
       cases fP a with
       |none=>
        simp only [dM,dR]
        show bU _ _=_
        exact(bD (by simp) _).trans rfl
       |some a=>
        cases fP b with
        |none=>
         simp only [dM,dR]
         show bU _ _=_
         exact(bD (by simp) _).trans rfl
        |some b=>
         cases fP c with
         |none=>
          simp only [dM,dR]
          show bU _ _=_
          exact(bD (by simp) _).trans rfl
         |some c=>
          cases fP d with
          |none=>
           simp only [dM,dR]
           show bU _ _=_
           exact(bD (by simp) _).trans rfl
          |some d=>
           rw [r4]
           simp only [dM,dR]
           show bU _ _=_
           exact(bD (by simp;omega) _).trans rfl
      |_::_::_::_::_::ws,_=>rw [decide_eq_false (by simp;omega),gV]
  ·rw [decide_eq_false hc,gV,if_neg hc]
inductive Lines:List UInt8→au→Int→Int→Bool→au→Int→Prop
 |nil (p:au) (n r:Int):Lines [] p n r true p n
 |bad {t:List UInt8} (h0:t≠[]) (h:10 ∉ t) (p:au) (n r:Int):Lines t p n r false p n
 |stop {s t:List UInt8} {p:au} {n r:Int} (h:10 ∉ s) (hl:rU r (bJ 32 s) p=none):Lines (s++10::t) p n r false p n
 |step {s t:List UInt8} {p q e:au} {n m r r':Int} {ok:Bool} (h:10 ∉ s) (hl:rU r (bJ 32 s) p=some (r',q)) (ht:Lines t q (n+1) r' ok e m):Lines (s++10::t) p n r ok e m
theorem FT: ∀(k:Nat) (t:List UInt8) (p:au) (n r:Int),t.length≤k→ ∃ok e m,Lines t p n r ok e m
 |k,t,p,n,r,hk=>by
  by_cases h0:t=[]
  ·subst h0;exact⟨_,_,_, .nil p n r⟩
  ·by_cases h:10∈t
   ·obtain⟨s,u,rfl,hs⟩:=List.eq_append_cons_of_mem h
    cases hl:rU r (bJ 32 s) p with
    |none=>exact⟨_,_,_, .stop hs hl⟩
    |some x=>
     obtain⟨r',q⟩:=x
     match k,hk with
     |0,hk=>simp at hk
     |k+1,hk=>
      obtain⟨ok,e,m,hh⟩:=FT k u q (n+1) r' (by simp at hk;omega)
      exact⟨ok,e,m, .step hs hl hh⟩
   ·exact⟨_,_,_, .bad h0 h p n r⟩
theorem CF: ∀{ts:List (List UInt8)} {l:List aW},kJ ts=some l→l.length=ts.length
 |[],l,h=>by cases h;rfl
 |w::ws,l,h=>by
  unfold kJ at h
  cases h1:wu w with
  |none=>rw [h1]at h;cases h
  |some t=>
   cases h2:kJ ws with
   |none=>rw [h1,h2]at h;cases h
   |some l'=>rw [h1,h2]at h;cases h;simp [CF h2]
theorem Az {r r':Int} {ws:List (List UInt8)} {p q:au} (h:rU r ws p=some (r',q)):
  (r'=1∧ ¬ 0<r∧ ∃w b,ws=[w,b]∧w=jb∧ ∃n,fP b=some n∧q=⟨n,p.sources,p.links,p.racks⟩)∨
  (r'=2∧0<r∧r≤2∧ ∃w a b c d e,ws=[w,a,b,c,d,e]∧w=jH∧ ∃a' b' c' d' e',fP a=some a'∧r9 vS EL Ew b=some b'∧fP c=some c'∧fP d=some d'∧fP e=some e'∧q=⟨p.buses,p.sources++[⟨a',b',c',d',e'⟩],p.links,p.racks⟩)∨
  (r'=3∧0<r∧r≤3∧ ∃w a b c d e ts,ws=w::a::b::c::d::e::ts∧w=qz∧ ∃a' b' c' d' e' l,fP a=some a'∧fP b=some b'∧r9 BX Dx Cn c=some c'∧fP d=some d'∧fP e=some e'∧kJ ts=some l∧q=⟨p.buses,p.sources,p.links++[⟨a',b',c',d',e',l⟩],p.racks⟩)∨
  (r'=4∧0<r∧r≤4∧ ∃w a b c d,ws=[w,a,b,c,d]∧w=qg∧ ∃a' b' c' d',fP a=some a'∧fP b=some b'∧fP c=some c'∧fP d=some d'∧q=⟨p.buses,p.sources,p.links,p.racks++[⟨⟨a',b'⟩,c',d'⟩]⟩):=by
 unfold rU at h
 have hw: ∀w,(eH w=1→w=jb)∧(eH w=2→w=jH)∧(eH w=3→w=qz)∧(eH w=4→w=qg):=fun w=>by
  unfold eH
  by_cases h1:w=jb
  ·rw [if_pos h1];exact⟨fun _=>h1,fun e=>by omega,fun e=>by omega,fun e=>by omega⟩
  ·rw [if_neg h1]
   by_cases h2:w=jH
   ·rw [if_pos h2];exact⟨fun e=>by omega,fun _=>h2,fun e=>by omega,fun e=>by omega⟩
   ·rw [if_neg h2]
    by_cases h3:w=qz
    ·rw [if_pos h3];exact⟨fun e=>by omega,fun e=>by omega,fun _=>h3,fun e=>by omega⟩
    ·rw [if_neg h3]
     by_cases h4:w=qg
     ·rw [if_pos h4];exact⟨fun e=>by omega,fun e=>by omega,fun e=>by omega,fun _=>h4⟩
     ·rw [if_neg h4];exact⟨fun e=>by omega,fun e=>by omega,fun e=>by omega,fun e=>by omega⟩
 have hR:=AV (ws.headD [])
 have hv:=hw (ws.headD [])
 generalize hRe:eH (ws.headD [])=R at h hR hv
 unfold rX at h
 by_cases hc:R≠0∧r≤R∧(1<R↔0<r)
 ·rw [if_pos hc]at h
  by_cases r1:R=1
  ·left
   rw [if_pos r1]at h
   split at h
   ·rename_i w b
    cases hb:fP b with
    |none=>rw [hb]at h;cases h
    |some n=>rw [hb]at h;cases h;exact⟨rfl,by omega,w,b,rfl,hv.1 r1,n,hb,rfl⟩
   ·cases h
  ·right
   rw [if_neg r1]at h
   by_cases r2:R=2
   ·left
    rw [if_pos r2]at h
    split at h
    ·rename_i w a b c d e
     split at h
     ·rename_i a' b' c' d' e' ha hb hc' hd he
      cases h;exact⟨rfl,by omega,by omega,w,a,b,c,d,e,rfl,hv.2.1 r2,a',b',c',d',e',ha,hb,hc',hd,he,rfl⟩
     ·cases h
    ·cases h
   ·right
    rw [if_neg r2]at h
    by_cases r3:R=3
    ·left
     rw [if_pos r3]at h
     split at h
     ·rename_i w a b c d e ts
      split at h
      ·rename_i a' b' c' d' e' l ha hb hc' hd he hl
       cases h;exact⟨rfl,by omega,by omega,w,a,b,c,d,e,ts,rfl,hv.2.2.1 r3,a',b',c',d',e',l,ha,hb,hc',hd,he,hl,rfl⟩
      ·cases h
     ·cases h
    ·right
     rw [if_neg r3]at h
     split at h
     ·rename_i w a b c d
      split at h
      ·rename_i a' b' c' d' ha hb hc' hd
       cases h;exact⟨rfl,by omega,by omega,w,a,b,c,d,rfl,hv.2.2.2 (by omega),a',b',c',d',ha,hb,hc',hd,rfl⟩
      ·cases h
     ·cases h
 ·rw [if_neg hc]at h;cases h
structure Oj (p:au) (t:List UInt8):Prop where
 s:p.sources.length+t.length≤200000
 l:p.links.length+t.length≤200000
 r:p.racks.length+t.length≤200000
 x: ∀x∈p.links,x.trip.length≤200000
theorem Oj.rm {p:au} {t:List UInt8} (h:Oj p t):Rm p:=⟨by have:=h.s;omega,by have:=h.l;omega,by have:=h.r;omega⟩
theorem Oj.step {p q:au} {s t:List UInt8} {r r':Int} (h:Oj p (s++10::t)) (hl:rU r (bJ 32 s) p=some (r',q)):Oj q t:=by
 have h1:=h.s;have h2:=h.l;have h3:=h.r;have h4:=h.x
 simp only [List.length_append,List.length_cons]at h1 h2 h3
 have hw:=(wX 32 s).2
 rcases Az hl with⟨_,_,w,b,_,_,n,_,rfl⟩|⟨_,_,_,w,a,b,c,d,e,_,_,a',b',c',d',e',_,_,_,_,_,rfl⟩|⟨_,_,_,w,a,b,c,d,e,ts,hws,_,a',b',c',d',e',l,_,_,_,_,_,hts,rfl⟩|⟨_,_,_,w,a,b,c,d,_,_,a',b',c',d',_,_,_,_,rfl⟩
 ·exact⟨by simp only;omega,by simp only;omega,by simp only;omega,h4⟩
 ·exact⟨by simp only [List.length_append,List.length_singleton];omega,by simp only;omega,by simp only;omega,h4⟩
 ·refine⟨by simp only;omega,by simp only [List.length_append,List.length_singleton];omega,by simp only;omega,fun x hx=> ?_⟩
  rcases List.mem_append.1 hx with hx|hx
  ·exact h4 x hx
  ·rw [List.mem_singleton]at hx;subst hx
   have:=CF hts
   rw [hws]at hw;simp only [List.length_cons]at hw
   simp only;omega
 ·exact⟨by simp only;omega,by simp only;omega,by simp only [List.length_append,List.length_singleton];omega,h4⟩
theorem Lines.run {t:List UInt8} {p e:au} {n m r:Int} {ok:Bool} (h:Lines t p n r ok e m): ∀(k:Nat),t.length<k→Oj p t→0≤n→n+t.length≤1000000→
  aR bQ k (p.buses,p.sources,p.links,p.racks,sb t,n,r)=some (bif ok then .brk (e.buses,e.sources,e.links,e.racks,m)else .ret (.inr (e.buses,e.sources,e.links,e.racks,m))):=by
 induction h with
 |nil p n r=>
  intro k hk _ _ _
  match k,hk with
  |k+1,_=>
   have hb:bQ (p.buses,p.sources,p.links,p.racks,sb [],n,r)=some (.done (.brk (p.buses,p.sources,p.links,p.racks,n))):=by
    unfold bQ
    dsimp only
    rw [show((⟨#[]⟩:ByteArray))=sb []from rfl,oC,decide_eq_true rfl]
    rfl
   rw [aR,hb];rfl
 |bad h0 h p n r=>
  rename_i t
  intro k hk hr _ _
  match k,hk with
  |k+1,_=>
   have hr1:=hr.s
   have hb:bQ (p.buses,p.sources,p.links,p.racks,sb t,n,r)=some (.done (.ret (.inr (p.buses,p.sources,p.links,p.racks,n)))):=by
    unfold bQ
    dsimp only
    rw [show((⟨#[]⟩:ByteArray))=sb []from rfl,oC,decide_eq_false (fun e=>h0 (Dg e)),Bool.not_false,cond_true,BK (by omega),Option.bind_some]
    dsimp only
    rw [Dw h,gV]
   rw [aR,hb];rfl
 |stop h hl=>
  rename_i s t p n r
  intro k hk hr _ _
  match k,hk with
  |k+1,_=>
   have hr1:=hr.s
   have hsl:s.length≤200000:=by simp at hr1;omega
   have hb:bQ (p.buses,p.sources,p.links,p.racks,sb (s++10::t),n,r)=some (.done (.ret (.inr (p.buses,p.sources,p.links,p.racks,n)))):=by
    unfold bQ
    dsimp only
    rw [show((⟨#[]⟩:ByteArray))=sb []from rfl,oC,decide_eq_false (fun e=>by have:=Dg e;simp at this),Bool.not_false,cond_true,BK (by omega),Option.bind_some]
    dsimp only
    rw [vz h,tK,LG r hsl hr.rm,hl]
    rfl
   rw [aR,hb];rfl
 |step h hl ht ih=>
  rename_i s t p q e n m r r' ok
  intro k hk hr hn hm
  match k,hk with
  |k+1,hk=>
   have hr1:=hr.s
   have hsl:s.length≤200000:=by simp at hr1;omega
   have hb:bQ (p.buses,p.sources,p.links,p.racks,sb (s++10::t),n,r)=some (.next (q.buses,q.sources,q.links,q.racks,sb t,n+1,r')):=by
    unfold bQ
    dsimp only
    rw [show((⟨#[]⟩:ByteArray))=sb []from rfl,oC,decide_eq_false (fun e=>by have:=Dg e;simp at this),Bool.not_false,cond_true,BK (by omega),Option.bind_some]
    dsimp only
    rw [vz h,tK,LG r hsl hr.rm,hl,wr (by omega)]
    rfl
   rw [aR,hb]
   simp only [List.length_append,List.length_cons]at hk hm
   exact ih k (by omega) (hr.step hl) (by omega) (by omega)
def E1:au:=⟨0,[],[],[]⟩
def mO (ok:Bool) (e:au) (n:Int):au × Int × Int:=
 if ok=true∧0<n then(if jd e=0 then(e,0,0)else(E1,n,jd e))else(E1,n,3)
theorem Lines.rn {t:List UInt8} {p e:au} {n m r:Int} {ok:Bool} (h:Lines t p n r ok e m):Oj p t→Oj e []:=by
 have key: ∀{p:au} {t:List UInt8},Oj p t→Oj p []:=fun{p t} h=> ⟨by have:=h.s;simp;omega,by have:=h.l;simp;omega,by have:=h.r;simp;omega,h.x⟩
 induction h with
 |nil p n r=>exact key
 |bad h0 h p n r=>exact key
 |stop h hl=>exact key
 |step h hl ht ih=>exact fun hr=>ih (hr.step hl)
theorem Ih {t:List UInt8} (ht:t.length≤131072) {ok:Bool} {e:au} {n:Int} (h:Lines t E1 0 0 ok e n):dO (sb t)=some (mO ok e n):=by
 have hr:Oj E1 t:=⟨by show 0+_≤_;omega,by show 0+_≤_;omega,by show 0+_≤_;omega,fun x hx=>by cases hx⟩
 have hrun:=h.run FUEL (by unfold FUEL;omega) hr (by omega) (by omega)
 have he:=h.rn hr
 unfold dO
 rw [uF,decide_eq_false (by omega),cond_false]
 have hlines:mh (sb t)=some (e,n,ok && decide (0<n)):=by
  unfold mh
  show Option.bind (Option.bind (aR bQ FUEL (E1.buses,E1.sources,E1.links,E1.racks,sb t,0,0)) _) _=_
  rw [hrun]
  cases ok<;>rfl
 rw [hlines,Option.bind_some]
 unfold mO
 dsimp only
 cases ok with
 |false=>rfl
 |true=>
  rw [Bool.true_and]
  by_cases hn:0<n
  ·rw [decide_eq_true hn,Bool.not_true,cond_false,if_pos ⟨rfl,hn⟩]
   have hs:Small e:=⟨by have:=he.s;omega,by have:=he.l;omega,by have:=he.r;omega,fun x hx=>by have:=he.x x hx;omega⟩
   rw [tQ e hs,Option.bind_some]
   by_cases hc:jd e=0
   ·rw [decide_eq_true hc,Bool.not_true,cond_false,if_pos hc]
   ·rw [decide_eq_false hc,Bool.not_false,cond_true,if_neg hc];rfl
  ·rw [decide_eq_false hn,Bool.not_false,cond_true,if_neg (fun h=>hn h.2)];rfl
def mZ (ws:List (List UInt8)):List UInt8:=joinL 32 ws++[10]
def pQ (x:Source):List (List UInt8):=[jH,Lib.itoa x.bus,lu vS EL Ew x.kind,Lib.itoa x.power,Lib.itoa x.sync,Lib.itoa x.ohm]
def El (t:aW):List UInt8:=Lib.itoa t.amps++58::Lib.itoa t.millis
def nY (x:Link):List (List UInt8):=qz::Lib.itoa x.a::Lib.itoa x.b::lu BX Dx Cn x.kind::Lib.itoa x.most::Lib.itoa x.ohm::x.trip.map El
def pz (x:aG):List (List UInt8):=[qg,Lib.itoa x.feeds.e0,Lib.itoa x.feeds.e1,Lib.itoa x.power,Lib.itoa x.paths]
def iU {α:Type} (f:α→List (List UInt8)):List α→List UInt8
 |[]=>[]
 |x::l=>mZ (f x)++iU f l
theorem yC {α:Type} (f:α→List (List UInt8)): ∀(a b:List α),iU f (a++b)=iU f a++iU f b
 |[],b=>rfl
 |x::a,b=>by rw [List.cons_append,iU,iU,yC f a b,List.append_assoc]
def wh (p:au):List UInt8:=mZ [jb,Lib.itoa p.buses]++(iU pQ p.sources++(iU nY p.links++iU pz p.racks))
theorem FQ (c:UInt8) (w:List UInt8): ∀{ws:List (List UInt8)},ws≠[]→joinL c (ws++[w])=joinL c ws++c::w
 |[],h=>absurd rfl h
 |[v],_=>rfl
 |v::u::ws,_=>by
  rw [List.cons_append,join_cons c v (by simp),join_cons c v (by simp),FQ c w (by simp),List.append_assoc];rfl
theorem FE (l:List Wd): ∀i,i≤l.length→oZ l i=joinL 32 ((l.take i).map Rw)
 |0,_=>rfl
 |i+1,h=>by
  have hi:i<l.length:=by omega
  rw [oZ,FE l i (by omega),List.take_succ_eq_append_getElem hi,List.map_append,List.map_singleton]
  have e:l.getD i default=l[i]:=by simp [hi]
  rw [e]
  rcases Nat.eq_zero_or_pos i with h0|h0
  ·subst h0;rfl
  ·rw [if_pos h0,FQ 32 _ (by intro e;have:=congrArg List.length e;simp only [List.length_map,List.length_take,List.length_nil]at this;omega)]
   rfl
theorem zK (l:List Wd):mU l=mZ (l.map Rw):=by
 unfold mU mZ
 rw [FE l l.length (Nat.le_refl _),List.take_length]
theorem L6 (l:List Source) (f:Nat→Nat→Int) (hf: ∀i j,f i j=QS (Source.cell (at' l i) j)): ∀i,i≤l.length→gW f i=iU pQ (l.take i)
 |0,_=>rfl
 |i+1,h=>by
  have hi:i<l.length:=by omega
  rw [gW,L6 l f hf i (by omega),jG hi,yC,zK]
  congr 1
  rw [iU,iU,List.append_nil]
  simp only [K5,hf]
  rfl
theorem Mk (l:List aG) (f:Nat→Nat→Int) (hf: ∀i j,f i j=QS (aG.cell (at' l i) j)): ∀i,i≤l.length→mY f i=iU pz (l.take i)
 |0,_=>rfl
 |i+1,h=>by
  have hi:i<l.length:=by omega
  rw [mY,Mk l f hf i (by omega),jG hi,yC,zK]
  congr 1
  rw [iU,iU,List.append_nil]
  simp only [KS,hf]
  rfl
theorem MC (l:List aW) (f:Nat→Nat→Int) (hf: ∀i j,f i j=QS (aW.cell (at' l i) j)): ∀i,i≤l.length→(Ad f i).map Rw=(l.take i).map El
 |0,_=>rfl
 |i+1,h=>by
  have hi:i<l.length:=by omega
  rw [Ad,List.map_append,MC l f hf i (by omega),jG hi,List.map_append]
  simp only [hf]
  rfl
theorem Mh (l:List Link) (f:Nat→Nat→Int) (tn:Nat→Nat) (tf:Nat→Nat→Nat→Int) (hf: ∀i j,j<5→f i j=QS (Link.cell (at' l i) j)) (hn: ∀i,tn i=(at' l i).trip.length) (ht: ∀i g j,tf i g j=QS (aW.cell (at' (at' l i).trip g) j)): ∀i,i≤l.length→jB f tn tf i=iU nY (l.take i)
 |0,_=>rfl
 |i+1,h=>by
  have hi:i<l.length:=by omega
  rw [jB,Mh l f tn tf hf hn ht i (by omega),jG hi,yC,zK]
  congr 1
  rw [iU,iU,List.append_nil]
  have e:=MC (at' l i).trip (tf i) (ht i) (tn i) (by rw [hn];exact Nat.le_refl _)
  rw [hn i,List.take_length]at e
  rw [hn i]
  unfold Ab nY
  rw [List.map_append,e]
  simp only [wG,hf i 0 (by omega),hf i 1 (by omega),hf i 2 (by omega),hf i 3 (by omega),hf i 4 (by omega)]
  rfl
theorem Ji (p:au):PX p=wh p:=by
 unfold PX K9 wh iT
 rw [zK,L6 p.sources (fmtS p) (fun _ _=>rfl) _ (Nat.le_refl _),List.take_length,Mh p.links (K6 p) (Ii p) (Ku p) (fun _ _ _=>rfl) (fun _=>rfl) (fun _ _ _=>rfl) _ (Nat.le_refl _),List.take_length,
  Mk p.racks (KA p) (fun _ _=>rfl) _ (Nat.le_refl _),List.take_length]
 rfl
def EB (w:List UInt8):Prop:=32 ∉ w∧10 ∉ w
theorem iP (v:Int):EB (Lib.itoa v):=⟨F8 (by decide) v,F8 (by decide) v⟩
theorem Hw {a b c:List UInt8} (ha:EB a) (hb:EB b) (hc:EB c) (k:Int):EB (lu a b c k):=by
 unfold lu;split
 ·exact ha
 ·split
  ·exact hb
  ·split
   ·exact hc
   ·exact⟨by simp,by simp⟩
theorem QK (t:aW):EB (El t):=by
 unfold El
 refine⟨fun h=> ?_,fun h=> ?_⟩
 ·rcases List.mem_append.1 h with h|h
  ·exact(iP _).1 h
  ·rcases List.mem_cons.1 h with h|h
   ·exact absurd h (by decide)
   ·exact(iP _).1 h
 ·rcases List.mem_append.1 h with h|h
  ·exact(iP _).2 h
  ·rcases List.mem_cons.1 h with h|h
   ·exact absurd h (by decide)
   ·exact(iP _).2 h
theorem Gb:EB jb∧EB jH∧EB qz∧EB qg∧EB vS∧EB EL∧EB Ew∧EB BX∧EB Dx∧EB Cn:=by
 unfold EB;decide
theorem Mx {c d:UInt8} (hcd:d≠c): ∀{ws:List (List UInt8)},(∀w∈ws,d ∉ w)→d ∉ joinL c ws
 |[],_=>by simp [joinL]
 |[w],h=>h w List.mem_cons_self
 |w::v::ws,h=>by
  rw [join_cons c w (by simp)]
  intro hm
  rcases List.mem_append.1 hm with hm|hm
  ·exact h w List.mem_cons_self hm
  ·rcases List.mem_cons.1 hm with hm|hm
   ·exact hcd hm
   ·exact Mx hcd (fun x hx=>h x (List.mem_cons_of_mem _ hx)) hm
theorem Lines.line {ws:List (List UInt8)} {t:List UInt8} {p q e:au} {n m r r':Int} {ok:Bool} (hne:ws≠[]) (hc: ∀w∈ws,EB w) (hl:rU r ws p=some (r',q)) (ht:Lines t q (n+1) r' ok e m):Lines (mZ ws++t) p n r ok e m:=by
 unfold mZ
 rw [List.append_assoc]
 refine .step (Mx (by decide) fun w hw=>(hc w hw).2) ?_ ht
 rw [Ea 32 hne fun w hw=>(hc w hw).1];exact hl
theorem dZ {v:Int} (h: -999999999≤v∧v≤999999999):fP (Lib.itoa v)=some v:=KH h
theorem AQ {a b c:List UInt8} (hab:a≠b) (hac:a≠c) (hbc:b≠c) {k:Int} (hk:1≤k∧k≤3):r9 a b c (lu a b c k)=some k:=by
 unfold lu r9
 by_cases h1:k=1
 ·rw [if_pos h1,if_pos rfl,h1]
 ·rw [if_neg h1]
  by_cases h2:k=2
  ·rw [if_pos h2,if_neg (Ne.symm hab),if_pos rfl,h2]
  ·rw [if_neg h2,if_pos (show k=3 by omega),if_neg (Ne.symm hac),if_neg (Ne.symm hbc),if_pos rfl]
   congr 1;omega
theorem MX {t:aW} (h1: -999999999≤t.amps∧t.amps≤999999999) (h2: -999999999≤t.millis∧t.millis≤999999999):wu (El t)=some t:=by
 unfold wu El
 rw [vz (F8 (by decide) t.amps),dZ h1,dZ h2]
 rfl
theorem Dl: ∀{l:List aW},(∀t∈l,(-999999999≤t.amps∧t.amps≤999999999)∧ -999999999≤t.millis∧t.millis≤999999999)→kJ (l.map El)=some l
 |[],_=>rfl
 |t::l,h=>by
  have h0:=h t List.mem_cons_self
  rw [List.map_cons,kJ,MX h0.1 h0.2,Dl fun x hx=>h x (List.mem_cons_of_mem _ hx)]
theorem xg {l:List aW} {i:Nat} (hi:i<l.length) (h:l8 l i=false):(1≤(at' l i).amps∧(at' l i).amps≤1000000)∧0≤(at' l i).millis∧(at' l i).millis≤1000000:=by
 unfold l8 at h
 simp only [Bool.or_eq_false_iff,Bool.not_eq_false',xJ]at h
 omega
theorem J9 {b:Int} (hb:1≤b∧b≤24):rU 0 [jb,Lib.itoa b] E1=some (1,⟨b,[],[],[]⟩):=by
 show rX 1 0 _ _=_
 unfold rX
 rw [if_pos (by decide),if_pos rfl]
 dsimp only
 rw [dZ (by omega)]
 rfl
theorem Ui:eH jH=2:=by decide
theorem TF:eH qz=3:=by decide
theorem Tv:eH qg=4:=by decide
theorem Om {b r:Int} {x:Source} (hb:1≤b∧b≤24) (hx:O3 b x) (hr:1≤r∧r≤2) (p:au):rU r (pQ x) p=some (2,⟨p.buses,p.sources++[x],p.links,p.racks⟩):=by
 obtain⟨h1,h2,h3,h4,h5⟩:=hx
 show rX (eH jH) r _ _=_
 rw [Ui]
 unfold rX pQ
 rw [if_pos ⟨by decide,hr.2,by constructor<;>intro<;>omega⟩,if_neg (by decide),if_pos rfl]
 dsimp only
 rw [dZ (by omega),AQ (by decide) (by decide) (by decide) h2,dZ (by omega),dZ (by omega),dZ (by omega)]
theorem PU {b r:Int} {x:Link} (hb:1≤b∧b≤24) (hx:VL b x) (hr:1≤r∧r≤3) (p:au):rU r (nY x) p=some (3,⟨p.buses,p.sources,p.links++[x],p.racks⟩):=by
 obtain⟨h1,h2,_,h3,h4,h5,h6,h7,_⟩:=hx
 show rX (eH qz) r _ _=_
 rw [TF]
 unfold rX nY
 rw [if_pos ⟨by decide,hr.2,by constructor<;>intro<;>omega⟩,if_neg (by decide),if_neg (by decide),if_pos rfl]
 dsimp only
 rw [dZ (by omega),dZ (by omega),AQ (by decide) (by decide) (by decide) h3,dZ (by omega),dZ (by omega),Dl fun t ht=> ?_]
 obtain⟨i,hi,rfl⟩:=fH ht
 have:=xg hi (h7 i hi)
 omega
theorem O8 {b r:Int} {x:aG} (hb:1≤b∧b≤24) (hx:VR b x) (hr:1≤r∧r≤4) (p:au):rU r (pz x) p=some (4,⟨p.buses,p.sources,p.links,p.racks++[x]⟩):=by
 obtain⟨h1,h2,_,h3,h4⟩:=hx
 have h5:iY x≤2:=by unfold iY;split<;>omega
 show rX (eH qg) r _ _=_
 rw [Tv]
 unfold rX pz
 rw [if_pos ⟨by decide,hr.2,by constructor<;>intro<;>omega⟩,if_neg (by decide),if_neg (by decide),if_neg (by decide)]
 dsimp only
 rw [dZ (by omega),dZ (by omega),dZ (by omega),dZ (by omega)]
theorem Nn (x:Source): ∀w∈pQ x,EB w:=by
 obtain⟨_,k2,_,_,k5,k6,k7,_⟩:=Gb
 intro w hw
 simp only [pQ,List.mem_cons,List.not_mem_nil,or_false]at hw
 rcases hw with rfl|rfl|rfl|rfl|rfl|rfl
 ·exact k2
 ·exact iP _
 ·exact Hw k5 k6 k7 _
 all_goals exact iP _
theorem Ns (x:Link): ∀w∈nY x,EB w:=by
 obtain⟨_,_,k3,_,_,_,_,k8,k9,k10⟩:=Gb
 intro w hw
 simp only [nY,List.mem_cons,List.mem_map]at hw
 rcases hw with rfl|rfl|rfl|rfl|rfl|rfl|⟨t,_,rfl⟩
 ·exact k3
 ·exact iP _
 ·exact iP _
 ·exact Hw k8 k9 k10 _
 ·exact iP _
 ·exact iP _
 ·exact QK t
theorem NM (x:aG): ∀w∈pz x,EB w:=by
 obtain⟨_,_,_,k4,_⟩:=Gb
 intro w hw
 simp only [pz,List.mem_cons,List.not_mem_nil,or_false]at hw
 rcases hw with rfl|rfl|rfl|rfl|rfl
 ·exact k4
 all_goals exact iP _
theorem Dc {b:Int} (hb:1≤b∧b≤24): ∀(l:List aG) (p:au) (n r:Int),(∀x∈l,VR b x)→1≤r∧r≤4→Lines (iU pz l) p n r true ⟨p.buses,p.sources,p.links,p.racks++l⟩ (n+l.length)
 |[],p,n,r,_,_=>by
  have:=Lines.nil p n r
  simpa [iU]using this
 |x::l,p,n,r,h,hr=>by
  have ih:=Dc hb l ⟨p.buses,p.sources,p.links,p.racks++[x]⟩ (n+1) 4 (fun y hy=>h y (List.mem_cons_of_mem _ hy)) (by omega)
  simp only [List.append_assoc,List.singleton_append]at ih
  rw [show n+1+(l.length:Int)=n+((x::l).length:Int) by simp only [List.length_cons];omega]at ih
  exact .line (by simp [pz]) (NM x) (O8 hb (h x List.mem_cons_self) hr p) ih
theorem Ce {b:Int} (hb:1≤b∧b≤24) {t:List UInt8} {e:au} {m:Int} {ok:Bool}: ∀(l:List Link) (p:au) (n r:Int),(∀x∈l,VL b x)→1≤r∧r≤3→(∀r',1≤r'∧r'≤3→Lines t ⟨p.buses,p.sources,p.links++l,p.racks⟩ (n+l.length) r' ok e m)→Lines (iU nY l++t) p n r ok e m
 |[],p,n,r,_,hr,hk=>by
  have:=hk r hr
  simpa [iU]using this
 |x::l,p,n,r,h,hr,hk=>by
  have ih:=Ce hb (t:=t) (e:=e) (m:=m) (ok:=ok) l ⟨p.buses,p.sources,p.links++[x],p.racks⟩ (n+1) 3 (fun y hy=>h y (List.mem_cons_of_mem _ hy)) (by omega) (fun r' hr'=>by
   have:=hk r' hr'
   simp only [List.append_assoc,List.singleton_append]
   rw [show n+1+(l.length:Int)=n+((x::l).length:Int) by simp only [List.length_cons];omega]
   exact this)
  rw [iU,List.append_assoc]
  exact .line (by simp [nY]) (Ns x) (PU hb (h x List.mem_cons_self) hr p) ih
theorem Cf {b:Int} (hb:1≤b∧b≤24) {t:List UInt8} {e:au} {m:Int} {ok:Bool}: ∀(l:List Source) (p:au) (n r:Int),(∀x∈l,O3 b x)→1≤r∧r≤2→(∀r',1≤r'∧r'≤2→Lines t ⟨p.buses,p.sources++l,p.links,p.racks⟩ (n+l.length) r' ok e m)→Lines (iU pQ l++t) p n r ok e m
 |[],p,n,r,_,hr,hk=>by
  have:=hk r hr
  simpa [iU]using this
 |x::l,p,n,r,h,hr,hk=>by
  have ih:=Cf hb (t:=t) (e:=e) (m:=m) (ok:=ok) l ⟨p.buses,p.sources++[x],p.links,p.racks⟩ (n+1) 2 (fun y hy=>h y (List.mem_cons_of_mem _ hy)) (by omega) (fun r' hr'=>by
   have:=hk r' hr'
   simp only [List.append_assoc,List.singleton_append]
   rw [show n+1+(l.length:Int)=n+((x::l).length:Int) by simp only [List.length_cons];omega]
   exact this)
  rw [iU,List.append_assoc]
  exact .line (by simp [pQ]) (Nn x) (Om hb (h x List.mem_cons_self) hr p) ih
theorem Kk {p:au} (h:VP p): ∃m,0<m∧Lines (wh p) E1 0 0 true p m:=by
 have hb:=h.b
 refine⟨1+(p.sources.length:Int)+p.links.length+p.racks.length,by omega, ?_⟩
 unfold wh
 refine .line (by simp) (fun w hw=> ?_) (J9 hb) ?_
 ·simp only [List.mem_cons,List.not_mem_nil,or_false]at hw
  rcases hw with rfl|rfl
  ·exact Gb.1
  ·exact iP _
 ·refine Cf hb p.sources _ _ _ (fun x hx=>by obtain⟨i,hi,rfl⟩:=fH hx;exact h.src i hi) (by omega) fun r' hr'=> ?_
  refine Ce hb p.links _ _ _ (fun x hx=>by obtain⟨i,hi,rfl⟩:=fH hx;exact h.lnk i hi) (by omega) fun r2 hr2=> ?_
  have:=Dc hb p.racks ⟨p.buses,p.sources,p.links,[]⟩ (1+(p.sources.length:Int)+p.links.length) r2 (fun x hx=>by obtain⟨i,hi,rfl⟩:=fH hx;exact h.rck i hi) (by omega)
  exact this
theorem fJ {w:List UInt8} {v:Int} (h:fP w=some v):w=Lib.itoa v:=Dg (J4 h)
theorem FK {a b c w:List UInt8} {k:Int} (h:r9 a b c w=some k):w=lu a b c k:=by
 unfold r9 at h
 by_cases h1:w=a
 ·rw [if_pos h1]at h;cases h;exact h1
 ·rw [if_neg h1]at h
  by_cases h2:w=b
  ·rw [if_pos h2]at h;cases h;exact h2
  ·rw [if_neg h2]at h
   by_cases h3:w=c
   ·rw [if_pos h3]at h;cases h;exact h3
   ·rw [if_neg h3]at h;cases h
theorem NI {w:List UInt8} {t:aW} (h:wu w=some t):w=El t:=by
 unfold wu at h
 by_cases hm:58∈w
 ·obtain⟨a,r,rfl,ha⟩:=List.eq_append_cons_of_mem hm
  rw [vz ha]at h
  dsimp only at h
  rw [cond_true]at h
  split at h
  ·rename_i x y hx hy
   cases h
   rw [fJ hx,fJ hy];rfl
  ·cases h
 ·rw [Dw hm]at h;cases h
theorem Cz: ∀{ts:List (List UInt8)} {l:List aW},kJ ts=some l→ts=l.map El
 |[],l,h=>by cases h;rfl
 |w::ws,l,h=>by
  unfold kJ at h
  cases h1:wu w with
  |none=>rw [h1]at h;cases h
  |some t=>
   cases h2:kJ ws with
   |none=>rw [h1,h2]at h;cases h
   |some l'=>rw [h1,h2]at h;cases h;rw [List.map_cons,NI h1,Cz h2]
theorem zw {s:List UInt8} {ws:List (List UInt8)} (h:bJ 32 s=ws) (t:List UInt8):s++10::t=mZ ws++t:=by
 rw [←h,mZ,KT,List.append_assoc];rfl
theorem NY {t:List UInt8} {p e:au} {n m r:Int} {ok:Bool} (h:Lines t p n r ok e m):ok=true→1≤r→
  ∃S L R,e=⟨p.buses,p.sources++S,p.links++L,p.racks++R⟩∧t=iU pQ S++(iU nY L++iU pz R)∧(3≤r→S=[])∧(4≤r→L=[]):=by
 induction h with
 |nil p n r=>intro _ _;exact⟨[],[],[],by simp,rfl,fun _=>rfl,fun _=>rfl⟩
 |bad h0 h p n r=>intro h;cases h
 |stop h hl=>intro h;cases h
 |step h hl ht ih=>
  rename_i s t p q e n m r r' ok
  intro hok hr
  rcases Az hl with⟨_,h0,_⟩|⟨rfl,_,hr2,w,a,b,c,d,f,hws,rfl,a',b',c',d',e',ha,hb,hc,hd,he,rfl⟩|⟨rfl,_,hr2,w,a,b,c,d,f,ts,hws,rfl,a',b',c',d',e',l,ha,hb,hc,hd,he,hts,rfl⟩|⟨rfl,_,hr2,w,a,b,c,d,hws,rfl,a',b',c',d',ha,hb,hc,hd,rfl⟩
  ·exact absurd (by omega) h0
  ·obtain⟨S,L,R,rfl,rfl,_,_⟩:=ih hok (by omega)
   refine⟨⟨a',b',c',d',e'⟩::S,L,R,by simp, ?_,fun _=>by omega,fun _=>by omega⟩
   rw [zw hws,iU,List.append_assoc]
   rw [fJ ha,FK hb,fJ hc,fJ hd,fJ he];rfl
  ·obtain⟨S,L,R,rfl,rfl,h3,_⟩:=ih hok (by omega)
   obtain rfl:=h3 (by omega)
   refine⟨[],⟨a',b',c',d',e',l⟩::L,R,by simp, ?_,fun _=>rfl,fun _=>by omega⟩
   rw [zw hws]
   simp only [iU,List.nil_append]
   rw [List.append_assoc,fJ ha,fJ hb,FK hc,fJ hd,fJ he,Cz hts];rfl
  ·obtain⟨S,L,R,rfl,rfl,h3,h4⟩:=ih hok (by omega)
   obtain rfl:=h3 (by omega)
   obtain rfl:=h4 (by omega)
   refine⟨[],[],⟨⟨a',b'⟩,c',d'⟩::R,by simp, ?_,fun _=>rfl,fun _=>rfl⟩
   rw [zw hws]
   simp only [iU,List.nil_append]
   rw [fJ ha,fJ hb,fJ hc,fJ hd];rfl
theorem O7 {t:List UInt8} {e:au} {m:Int} (h:Lines t E1 0 0 true e m) (hm:0<m):t=wh e:=by
 cases h with
 |nil=>omega
 |step h hl ht=>
  rename_i s t q r'
  rcases Az hl with⟨rfl,_,w,b,hws,rfl,n,hb,rfl⟩|⟨_,h0,_⟩|⟨_,h0,_⟩|⟨_,h0,_⟩
  ·obtain⟨S,L,R,rfl,rfl,_,_⟩:=NY ht rfl (by omega)
   rw [zw hws,fJ hb]
   show _=mZ [jb,Lib.itoa n]++(iU pQ ([]++S)++(iU nY ([]++L)++iU pz ([]++R)))
   rfl
  ·omega
  ·omega
  ·omega
theorem Ht (c:UInt8) {k:Nat}: ∀{ws:List (List UInt8)},(∀w∈ws,w.length≤k)→(joinL c ws).length≤(k+1)*ws.length
 |[],_=>by simp [joinL]
 |[w],h=>by have:=h w List.mem_cons_self;simp [joinL];omega
 |w::v::ws,h=>by
  have h1:=h w List.mem_cons_self
  have ih:=Ht c (k:=k) (ws:=v::ws) fun x hx=>h x (List.mem_cons_of_mem _ hx)
  rw [join_cons c w (by simp),List.length_append,List.length_cons,List.length_cons (a:=w),Nat.mul_succ]
  omega
theorem yJ {ws:List (List UInt8)} {q:Nat} (h: ∀w∈ws,w.length≤30) (hq:ws.length≤q):(mZ ws).length≤31*q+1:=by
 have:=Ht 32 h
 rw [mZ,List.length_append]
 have:31*ws.length≤31*q:=Nat.mul_le_mul_left _ hq
 simp only [List.length_singleton];omega
theorem yI {α:Type} {f:α→List (List UInt8)} {k:Nat}: ∀{l:List α},(∀x∈l,(mZ (f x)).length≤k)→(iU f l).length≤k*l.length
 |[],_=>by simp [iU]
 |x::l,h=>by
  have h1:=h x List.mem_cons_self
  have h2:=yI (k:=k) fun y hy=>h y (List.mem_cons_of_mem _ hy)
  rw [iU,List.length_append,List.length_cons,Nat.mul_succ];omega
theorem JK {a b c:List UInt8} (ha:a.length≤30) (hb:b.length≤30) (hc:c.length≤30) (k:Int):(lu a b c k).length≤30:=by
 unfold lu;split
 ·exact ha
 ·split
  ·exact hb
  ·split
   ·exact hc
   ·simp
theorem qd {v:Int} (h: -999999999≤v∧v≤999999999):(Lib.itoa v).length≤10:=(HZ h).1
theorem Sw {b:Int} {x:Source} (hb:1≤b∧b≤24) (h:O3 b x):(mZ (pQ x)).length≤400:=by
 obtain⟨h1,h2,h3,h4,h5⟩:=h
 refine Nat.le_trans (yJ (q:=6) (fun w hw=> ?_) (by simp [pQ])) (by omega)
 simp only [pQ,List.mem_cons,List.not_mem_nil,or_false]at hw
 rcases hw with rfl|rfl|rfl|rfl|rfl|rfl
 ·decide
 ·exact Nat.le_trans (qd (by omega)) (by omega)
 ·exact JK (by decide) (by decide) (by decide) _
 all_goals exact Nat.le_trans (qd (by omega)) (by omega)
theorem R5 {b:Int} {x:Link} (hb:1≤b∧b≤24) (h:VL b x):(mZ (nY x)).length≤400:=by
 obtain⟨h1,h2,_,h3,h4,h5,h6,h7,_⟩:=h
 refine Nat.le_trans (yJ (q:=12) (fun w hw=> ?_) (by simp [nY];omega)) (by omega)
 simp only [nY,List.mem_cons,List.mem_map]at hw
 rcases hw with rfl|rfl|rfl|rfl|rfl|rfl|⟨t,ht,rfl⟩
 ·decide
 ·exact Nat.le_trans (qd (by omega)) (by omega)
 ·exact Nat.le_trans (qd (by omega)) (by omega)
 ·exact JK (by decide) (by decide) (by decide) _
 ·exact Nat.le_trans (qd (by omega)) (by omega)
 ·exact Nat.le_trans (qd (by omega)) (by omega)
 ·obtain⟨i,hi,rfl⟩:=fH ht
  have hb:=xg hi (h7 i hi)
  have e1:=qd (v:=(at' x.trip i).amps) (by omega)
  have e2:=qd (v:=(at' x.trip i).millis) (by omega)
  rw [El,List.length_append,List.length_cons];omega
theorem QH {b:Int} {x:aG} (hb:1≤b∧b≤24) (h:VR b x):(mZ (pz x)).length≤400:=by
 obtain⟨h1,h2,_,h3,h4⟩:=h
 have h5:iY x≤2:=by unfold iY;split<;>omega
 refine Nat.le_trans (yJ (q:=5) (fun w hw=> ?_) (by simp [pz])) (by omega)
 simp only [pz,List.mem_cons,List.not_mem_nil,or_false]at hw
 rcases hw with rfl|rfl|rfl|rfl|rfl
 ·decide
 all_goals exact Nat.le_trans (qd (by omega)) (by omega)
theorem IB {p:au} (h:VP p):(wh p).length≤40000:=by
 have hb:=h.b;have h1:=h.sl;have h2:=h.ll;have h3:=h.rl
 have l0:(mZ [jb,Lib.itoa p.buses]).length≤31*2+1:=yJ (q:=2) (fun w hw=>by
  simp only [List.mem_cons,List.not_mem_nil,or_false]at hw
  rcases hw with rfl|rfl
  ·decide
  ·exact Nat.le_trans (qd (by omega)) (by omega)) (by simp)
 have l1:=yI (f:=pQ) (k:=400) (l:=p.sources) fun x hx=>by obtain⟨i,hi,rfl⟩:=fH hx;exact Sw hb (h.src i hi)
 have l2:=yI (f:=nY) (k:=400) (l:=p.links) fun x hx=>by obtain⟨i,hi,rfl⟩:=fH hx;exact R5 hb (h.lnk i hi)
 have l3:=yI (f:=pz) (k:=400) (l:=p.racks) fun x hx=>by obtain⟨i,hi,rfl⟩:=fH hx;exact QH hb (h.rck i hi)
 unfold wh
 simp only [List.length_append]
 omega
theorem gL {z:Int} (h: -999999999≤z∧z≤999999999):yt z=true:=by
 unfold yt
 rw [decide_eq_true (by omega),decide_eq_true (by omega)];rfl
theorem ny {n:Nat} {f:Nat→Bool} (h: ∀i,i<n→f i=true):pR n f=true:=by
 unfold pR;rw [List.all_eq_true];exact fun i hi=>h i (List.mem_range.1 hi)
theorem CG {p:au} (h:VP p):bH p=some (sb (wh p),0):=by
 have hb:=h.b;have h1:=h.sl;have h2:=h.ll;have h3:=h.rl
 have hg:fmtG p.buses p.sources.length p.links.length p.racks.length (fmtS p) (K6 p) (KA p) (Ii p) (Ku p)=true:=by
  unfold fmtG
  have e1:pR p.sources.length (fun i=>pR 5 fun j=>yt (fmtS p i j))=true:=ny fun i hi=>ny fun j hj=>by
   obtain⟨k1,k2,k3,k4,k5⟩:=h.src i hi
   match j,hj with
   |0,_=>exact gL (z:=(at' p.sources i).bus) (by omega)
   |1,_=>exact gL (z:=(at' p.sources i).kind) (by omega)
   |2,_=>exact gL (z:=(at' p.sources i).power) (by omega)
   |3,_=>exact gL (z:=(at' p.sources i).sync) (by omega)
   |4,_=>exact gL (z:=(at' p.sources i).ohm) (by omega)
  have e2:pR p.links.length (fun i=>pR 5 (fun j=>yt (K6 p i j)) && decide (Ii p i≤1000) && pR (Ii p i) fun g=>pR 2 fun j=>yt (Ku p i g j))=true:=ny fun i hi=>by
   obtain⟨k1,k2,_,k3,k4,k5,k6,k7,_⟩:=h.lnk i hi
   rw [Bool.and_eq_true,Bool.and_eq_true]
   refine⟨⟨ny fun j hj=> ?_,decide_eq_true (show(at' p.links i).trip.length≤1000 by omega)⟩,ny fun g hg=>ny fun j hj=> ?_⟩
   ·match j,hj with
    |0,_=>exact gL (z:=(at' p.links i).a) (by omega)
    |1,_=>exact gL (z:=(at' p.links i).b) (by omega)
    |2,_=>exact gL (z:=(at' p.links i).kind) (by omega)
    |3,_=>exact gL (z:=(at' p.links i).most) (by omega)
    |4,_=>exact gL (z:=(at' p.links i).ohm) (by omega)
   ·have hg:g<(at' p.links i).trip.length:=hg
    have:=xg hg (k7 g hg)
    match j,hj with
    |0,_=>exact gL (z:=(at' (at' p.links i).trip g).amps) (by omega)
    |1,_=>exact gL (z:=(at' (at' p.links i).trip g).millis) (by omega)
  have e3:pR p.racks.length (fun i=>pR 4 fun j=>yt (KA p i j))=true:=ny fun i hi=>ny fun j hj=>by
   obtain⟨k1,k2,_,k3,k4⟩:=h.rck i hi
   have k5:iY (at' p.racks i)≤2:=by unfold iY;split<;>omega
   match j,hj with
   |0,_=>exact gL (z:=(at' p.racks i).feeds.e0) (by omega)
   |1,_=>exact gL (z:=(at' p.racks i).feeds.e1) (by omega)
   |2,_=>exact gL (z:=(at' p.racks i).power) (by omega)
   |3,_=>exact gL (z:=(at' p.racks i).paths) (by omega)
  have e4:(K9 p.buses p.sources.length p.links.length p.racks.length (fmtS p) (K6 p) (KA p) (Ii p) (Ku p)).length≤140737488355328:=by
   have:=IB h
   rw [←Ji]at this
   exact Nat.le_trans this (by omega)
  rw [gL (by omega),e1,e2,e3,decide_eq_true e4,decide_eq_true (by omega),decide_eq_true (by omega),decide_eq_true (by omega)]
  rfl
 unfold bH
 rw [tQ p h.small,Option.bind_some,iB.mpr h,decide_eq_true rfl,cond_true,hg,cond_true,Ji]
theorem La {p:au} (hs:Small p) (h: ¬ VP p):bH p=some (⟨#[]⟩,jd p):=by
 unfold bH
 rw [tQ p hs,Option.bind_some,decide_eq_false (fun e=>h (iB.mp e)),cond_false]
theorem Ia {p:au} (h:VP p):dO (sb (wh p))=some (p,0,0):=by
 obtain⟨m,hm,hl⟩:=Kk h
 rw [Ih (by have:=IB h;omega) hl]
 unfold mO
 rw [if_pos ⟨rfl,hm⟩,if_pos (iB.mpr h)]
theorem Kc {t:List UInt8} (ht:t.length≤131072): ∃q n e,dO (sb t)=some (q,n,e)∧(e=0→VP q∧wh q=t):=by
 obtain⟨ok,e,m,hl⟩:=FT t.length t E1 0 0 (Nat.le_refl _)
 refine⟨(mO ok e m).1,(mO ok e m).2.1,(mO ok e m).2.2,Ih ht hl,fun h0=> ?_⟩
 by_cases hc:ok=true∧0<m
 ·by_cases h1:jd e=0
  ·have hp:mO ok e m=(e,0,0):=by unfold mO;rw [if_pos hc,if_pos h1]
   rw [hp]
   obtain⟨rfl,hm⟩:=hc
   exact⟨iB.mp h1,(O7 hl hm).symm⟩
  ·have hp:mO ok e m=(E1,m,jd e):=by unfold mO;rw [if_pos hc,if_neg h1]
   rw [hp]at h0;exact absurd h0 h1
 ·have hp:mO ok e m=(E1,m,3):=by unfold mO;rw [if_neg hc]
  rw [hp]at h0;cases h0
def WC (b:Bool):UInt8:=bif b then 49 else 48
def jv (j:Nat) (l:List Bool):List UInt8:=wI j++32::l.map WC
def Qm (ws:List (List UInt8)) (j:Nat):List Bool:=if j<ws.length then(aQ (sb (Lib.cut (at' ws j) [32]).2.1)).map fun b=>decide (b=49)else []
theorem vX {α β:Type} {o:Option α} {x:α} (h:o=some x) {k:α→Option β} {r:Option β} (hk:k x=r):o.bind k=r:=by
 rw [h];exact hk
theorem Sn (r:ByteArray × ByteArray × Bool) (hl:(aQ r.2.1).length≤1000000):aR (bP r) FUEL ([],0)=some (.brk ((aQ r.2.1).map fun b=>decide (b=49))):=by
 have key:=nO (N:=FUEL) (body:=bP r) (fun t=>(((aQ r.2.1).take t).map fun b=>decide (b=49),(t:Int))) (aQ r.2.1).length (.brk ((aQ r.2.1).map fun b=>decide (b=49))) (fuel_lt (by omega)) (fun t ht=> ?_) ?_
 ·exact key
 ·unfold bP
  dsimp only
  rw [decide_eq_true (by omega),cond_true,bD ⟨by omega,by omega⟩,Int.toNat_natCast,bD (by simp only [List.length_map,List.length_take,List.length_singleton];omega),wr (by omega),jG ht,List.map_append]
  rfl
 ·unfold bP
  dsimp only
  rw [decide_eq_false (by omega),cond_false,List.take_length]
theorem YV:sF=bP:=rfl
theorem YO:rZ=bP:=rfl
theorem YP:sj=bP:=rfl
theorem YJ:rW=bP:=rfl
theorem YS:rV=bP:=rfl
theorem YI:su=bP:=rfl
theorem NN (ws:List (List UInt8)) {j:Nat} (hj:j<ws.length):at' (ws.map sb) j=sb (at' ws j):=by
 rw [p8 (by simpa using hj),p8 hj,List.getElem_map]
theorem lS (ws:List (List UInt8)) (hw: ∀w∈ws,w.length≤200000) (j:Nat) (hj7:j<7):
  bU ((0:Int)≤(j:Int)∧(j:Int)<(7:Int)) (bif (decide ((j:Int)<((ws.map sb).length:Int)))then
   (bT (at' (ws.map sb) j) ⟨#[32]⟩).bind fun r=>bU ((0:Int)≤(j:Int)∧(j:Int)<((ws.map sb).length:Int)) (Option.bind (aR (bP r) FUEL (([]:List Bool),0)) fun o=>match o with
    | .ret v=>some v
    | .brk s=>some s)
   else some ([]:List Bool))=some (Qm ws j):=by
 rw [bD (by omega)]
 unfold Qm
 by_cases h:j<ws.length
 ·have hl:=hw _ (at_mem h)
  have hc:=(Jq (at' ws j) 32).2
  rw [decide_eq_true (by rw [List.length_map];omega),cond_true,NN ws h,BK (by omega),Option.bind_some,bD (by rw [List.length_map];omega),Sn _ (by simp only [aQ,List.length_map];rw [o9];omega),if_pos h]
  rfl
 ·rw [decide_eq_false (by rw [List.length_map];omega),cond_false,if_neg h]
def RG (ws:List (List UInt8)):State:=⟨Qm ws 2,Qm ws 3,Qm ws 4,Qm ws 0,Qm ws 1,Qm ws 5,Qm ws 6⟩
def Z1:State:=⟨[],[],[],[],[],[],[]⟩
def Pq (p:au) (t:List UInt8):State × Int:=
 if jd p≠0 then(Z1,jd p)else if tZ p (RG (bJ 10 t))=0∧mP (KX (RG (bJ 10 t)))=sb t then(RG (bJ 10 t),0)else(Z1,3)
theorem LH {p:au} {s:State} (hp:VP p) (hs:VS p s):jE s=some (mP (KX s)):=by
 have h1:=hp.ll;have h2:=hp.sl;have h3:=hp.b
 have k1:=hs.closed;have k2:=hs.locked;have k3:=hs.badLink;have k4:=hs.on;have k5:=hs.badSource;have k6:=hs.earthed;have k7:=hs.badBus
 unfold jE
 have hg:Ip (KX s)=true:=by
  unfold Ip
  refine ny fun q hq=>decide_eq_true ?_
  match q,hq with
  |0,_=>show s.closed.length≤1000000;omega
  |1,_=>show s.locked.length≤1000000;omega
  |2,_=>show s.badLink.length≤1000000;omega
  |3,_=>show s.on_.length≤1000000;omega
  |4,_=>show s.badSource.length≤1000000;omega
  |5,_=>show s.earthed.length≤1000000;omega
  |6,_=>show s.badBus.length≤1000000;omega
 rw [hg];rfl
theorem RH {p:au} (hp:Small p) {t:List UInt8} (ht:t.length≤200000):iH p (sb t)=some (Pq p t):=by
 unfold iH Pq
 rw [YV,YO,YP,YJ,YS,YI,tQ p hp,Option.bind_some]
 by_cases h0:jd p=0
 ·rw [decide_eq_true h0,Bool.not_true,cond_false,JI (by rw [uF];omega),Option.bind_some,o9,if_neg (fun h=>h h0)]
  have hw: ∀w∈bJ 10 t,w.length≤200000:=fun w hw=>Nat.le_trans ((wX 10 t).1 w hw) ht
  refine vX (o:=rz _) rfl ?_
  refine vX (lS (bJ 10 t) hw 0 (by omega)) ?_
  refine vX (lS (bJ 10 t) hw 1 (by omega)) ?_
  refine vX (lS (bJ 10 t) hw 2 (by omega)) ?_
  refine vX (lS (bJ 10 t) hw 3 (by omega)) ?_
  refine vX (lS (bJ 10 t) hw 4 (by omega)) ?_
  refine vX (lS (bJ 10 t) hw 5 (by omega)) ?_
  refine vX (lS (bJ 10 t) hw 6 (by omega)) ?_
  refine vX (pU p (RG (bJ 10 t)) hp) ?_
  by_cases hs:tZ p (RG (bJ 10 t))=0
  ·obtain⟨hv,hvs⟩:=uX.mp hs
   rw [hs,decide_eq_true rfl,Bool.not_true]
   refine vX (show _=some (mP (KX (RG (bJ 10 t))))from LH hv hvs) ?_
   rw [oC,cond_false]
   by_cases hT:mP (KX (RG (bJ 10 t)))=sb t
   ·rw [decide_eq_true hT,if_pos ⟨rfl,hT⟩];rfl
   ·rw [decide_eq_false hT,if_neg (fun h=>hT h.2)];rfl
  ·rw [decide_eq_false hs,if_neg (fun h=>hs h.1)]
   rfl
 ·rw [decide_eq_false h0,Bool.not_false,cond_true,if_pos h0];rfl
theorem FL (l:List Bool): ∀i,i≤l.length→tY (fun i=>l.getD i false) i=(l.take i).map WC
 |0,_=>rfl
 |i+1,h=>by
  have hi:i<l.length:=by omega
  rw [tY,FL l i (by omega),jG hi,List.map_append]
  rfl
def P5 (l:Nat→List Bool):Nat→List (List UInt8)
 |0=>[]
 |j+1=>P5 l j++[jv j (l (lK j))]
theorem xD (l:Nat→List Bool): ∀j,mD (fun q=>(l q).length) (fun q i=>(l q).getD i false) j=((P5 l j).map (· ++[10])).flatten
 |0=>rfl
 |j+1=>by
  rw [mD,xD l j,P5,List.map_append,List.flatten_append,FL _ _ (Nat.le_refl _),List.take_length]
  simp [jv]
theorem CQ: ∀(ws:List (List UInt8)),(∀w∈ws,10 ∉ w)→bJ 10 ((ws.map (· ++[10])).flatten)=ws++[[]]
 |[],_=>rfl
 |w::ws,h=>by
  rw [List.map_cons,List.flatten_cons,List.append_assoc]
  show bJ 10 (w++10::(ws.map (· ++[10])).flatten)=_
  rw [nN (h w List.mem_cons_self),CQ ws fun x hx=>h x (List.mem_cons_of_mem _ hx)]
  rfl
theorem LZ: ∀j,j<7→32 ∉ wI j∧10 ∉ wI j:=by decide
theorem TG {j:Nat} (hj:j<7) (l:List Bool):10 ∉ jv j l:=by
 unfold jv
 intro h
 rcases List.mem_append.1 h with h|h
 ·exact(LZ j hj).2 h
 ·rcases List.mem_cons.1 h with h|h
  ·exact absurd h (by decide)
  ·obtain⟨b,_,hb⟩:=List.mem_map.1 h
   cases b<;>exact absurd hb (by decide)
theorem kH {j:Nat} (hj:j<7) (l:List Bool):(aQ (sb (Lib.cut (jv j l) [32]).2.1)).map (fun b=>decide (b=49))=l:=by
 unfold jv
 rw [vz (LZ j hj).1]
 unfold aQ
 rw [o9,List.map_map,List.map_map]
 conv=>rhs;rw [←List.map_id l]
 refine List.map_congr_left fun b _=> ?_
 cases b<;>rfl
theorem Kl (l:Nat→List Bool):bJ 10 (mD (fun q=>(l q).length) (fun q i=>(l q).getD i false) 7)=[jv 0 (l 3),jv 1 (l 4),jv 2 (l 0),jv 3 (l 1),jv 4 (l 2),jv 5 (l 5),jv 6 (l 6),[]]:=by
 rw [xD]
 show bJ 10 (([jv 0 (l 3),jv 1 (l 4),jv 2 (l 0),jv 3 (l 1),jv 4 (l 2),jv 5 (l 5),jv 6 (l 6)].map (· ++[10])).flatten)=_
 rw [CQ _ fun w hw=> ?_]
 ·rfl
 ·simp only [List.mem_cons,List.not_mem_nil,or_false]at hw
  rcases hw with rfl|rfl|rfl|rfl|rfl|rfl|rfl<;>exact TG (by decide) _
theorem JE {p:au} {s:State} (hp:VP p) (hs:VS p s):iH p (mP (KX s))=some (s,0):=by
 have h1:=hp.ll;have h2:=hp.sl;have h3:=hp.b
 have k1:=hs.closed;have k2:=hs.locked;have k3:=hs.badLink;have k4:=hs.on;have k5:=hs.badSource;have k6:=hs.earthed;have k7:=hs.badBus
 have hd:RG (bJ 10 (mD (fun q=>(KX s q).length) (fun q i=>(KX s q).getD i false) 7))=s:=by
  rw [Kl]
  unfold RG Qm
  rw [if_pos (by simp),if_pos (by simp),if_pos (by simp),if_pos (by simp),if_pos (by simp),if_pos (by simp),if_pos (by simp)]
  show State.mk ((aQ (sb (Lib.cut (jv 2 s.closed) [32]).2.1)).map _) ((aQ (sb (Lib.cut (jv 3 s.locked) [32]).2.1)).map _) ((aQ (sb (Lib.cut (jv 4 s.badLink) [32]).2.1)).map _) ((aQ (sb (Lib.cut (jv 0 s.on_) [32]).2.1)).map _) ((aQ (sb (Lib.cut (jv 1 s.badSource) [32]).2.1)).map _) ((aQ (sb (Lib.cut (jv 5 s.earthed) [32]).2.1)).map _) ((aQ (sb (Lib.cut (jv 6 s.badBus) [32]).2.1)).map _)=s
  rw [kH (by decide),kH (by decide),kH (by decide),kH (by decide),kH (by decide),kH (by decide),kH (by decide)]
 have hl:(mD (fun q=>(KX s q).length) (fun q i=>(KX s q).getD i false) 7).length≤200000:=by
  rw [xD]
  show(([jv 0 s.on_,jv 1 s.badSource,jv 2 s.closed,jv 3 s.locked,jv 4 s.badLink,jv 5 s.earthed,jv 6 s.badBus].map (· ++[10])).flatten).length≤_
  simp [jv,wI];omega
 unfold mP
 rw [RH hp.small hl]
 unfold Pq
 rw [hd,if_neg (fun h=>h (iB.mpr hp)),if_pos ⟨uX.mpr ⟨hp,hs⟩,rfl⟩]
theorem Bt (p:au) (s:State) (text:ByteArray) (hp:Small p):iG p s text=some true:=by
 unfold iG
 rw [TW,Option.bind_some]
 cases hB:Qd p with
 |true=>rw [cond_true,cond_true,Gf];rfl
 |false=>
  rw [cond_false]
  by_cases ht:4000<((text.size:Nat):Int)
  ·rw [decide_eq_true ht,cond_true,Gf];rfl
  ·rw [decide_eq_false ht,cond_false]
   have hbf:=Yj hB
   have htl:text.data.toList.length≤131072:=by
    have:text.data.toList.length=text.size:=by simp
    omega
   obtain⟨q,n,e,hq,hqe⟩:=Kc htl
   rw [zF]at hq
   rw [hq,Gf]
   have hend:(bif decide (e=0)then(bH q).bind fun r_9=>bif (bif (!decide (r_9.2=0))then true else(!((r_9.1:ByteArray).toList==(text:ByteArray).toList)))then some false else(some true:Option Bool).bind fun r_10=>some r_10 else(some true:Option Bool).bind fun r_11=>some r_11)=some true:=by
    by_cases he:e=0
    ·obtain⟨hv,htx⟩:=hqe he
     rw [decide_eq_true he,cond_true,CG hv,Option.bind_some,htx,zF]
     dsimp only
     rw [oC,decide_eq_true (rfl:text=text)]
     rfl
    ·rw [decide_eq_false he];rfl
   have hst:((gG p s).bind fun r_5=>bif (decide (r_5.2=0))then(iH p r_5.1).bind fun r_6=>(bif gB [((!decide (r_6.2=0)),false)]then gu s r_6.1 else some default).bind fun r_7=>bif (bif (!decide (r_6.2=0))then true else(!r_7))then some false else
      (bif decide (e=0)then(bH q).bind fun r_9=>bif (bif (!decide (r_9.2=0))then true else(!((r_9.1:ByteArray).toList==(text:ByteArray).toList)))then some false else(some true:Option Bool).bind fun r_10=>some r_10 else(some true:Option Bool).bind fun r_11=>some r_11)
     else(bif decide (e=0)then(bH q).bind fun r_9=>bif (bif (!decide (r_9.2=0))then true else(!((r_9.1:ByteArray).toList==(text:ByteArray).toList)))then some false else(some true:Option Bool).bind fun r_10=>some r_10 else(some true:Option Bool).bind fun r_11=>some r_11))=some true:=by
    rw [hend]
    by_cases h0:tZ p s=0
    ·obtain⟨hv,hvs⟩:=uX.mp h0
     have e1:gG p s=some (mP (KX s),0):=by
      unfold gG
      rw [pU p s hp,h0,Option.bind_some,decide_eq_true rfl,Bool.not_true,cond_false,LH hv hvs];rfl
     rw [e1,Option.bind_some]
     dsimp only
     rw [decide_eq_true rfl,cond_true,JE hv hvs,Option.bind_some]
     dsimp only
     rw [decide_eq_true rfl,Bool.not_true,show gB [(false,false)]=true from rfl,cond_true,CW s (hvs.room hv)]
     rfl
    ·have e1:gG p s=some (⟨#[]⟩,tZ p s):=by
      unfold gG
      rw [pU p s hp,Option.bind_some,decide_eq_false h0];rfl
     rw [e1,Option.bind_some]
     dsimp only
     rw [decide_eq_false h0];rfl
   by_cases hv:VP p
   ·rw [CG hv,Option.bind_some]
    dsimp only
    rw [decide_eq_true rfl,cond_true,Ia hv,Option.bind_some]
    dsimp only
    rw [decide_eq_true rfl,Bool.not_true,cond_false,show gB [(false,false)]=true from rfl,cond_true,BU hbf,Option.bind_some]
    exact hst
   ·rw [La hp hv,Option.bind_some]
    dsimp only
    rw [decide_eq_false (fun e=>hv (iB.mp e)),cond_false]
    exact hst
end Sg
