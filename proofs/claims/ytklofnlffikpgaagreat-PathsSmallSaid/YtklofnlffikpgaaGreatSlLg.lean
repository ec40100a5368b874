import Derived.Test.YtklofnlffikpgaaGreatSlLc
import Derived.Test.YtklofnlffikpgaaGreatSlGm
set_option linter.all false
namespace Sg
open Go
theorem wr {x:Int} (h: -9223372036854775808<=x/\x<=9223372036854775807):IntKind.wrap .i64 x=x:=by rw [IntKind.wrap_i64];omega
theorem jd {σ ρ:Type} {body:σ->Option (aH σ ρ)}: ∀{n m:Nat} {s:σ} {r:ρ},ay body n s=some r->n<=m->ay body m s=some r
 |0,_,_,_,h,_=>by cases h
 |n+1,0,_,_,_,hm=>by omega
 |n+1,m+1,s,r,h,hm=>by
  rw [bK]at h ⊢
  revert h
  cases body s with
  |none=>exact id
  |some f=>
   cases f with
   |next s'=>exact fun h=>jd h (by omega)
   |done r=>exact id
theorem NR {σ ρ:Type} {body:σ->Option (aH σ ρ)} (S:Nat->σ) (k:Nat) (hs: ∀i,i<k->body (S i)=some (.next (S (i+1)))): ∀(m:Nat),ay body (k+m) (S 0)=ay body m (S k):=by
 induction k with
 |zero=>intro m;simp
 |succ k ih=>
  intro m
  have:=ih (fun i hi=>hs i (by omega)) (m+1)
  rw [show k+1+m=k+(m+1) by omega,this,bK,hs k (by omega)]
theorem aU {σ ρ:Type} {body:σ->Option (aH σ ρ)} {N:Nat} (S:Nat->σ) (k:Nat) (r:ρ) (hk:k<N) (hs: ∀i,i<k->body (S i)=some (.next (S (i+1)))) (hd:body (S k)=some (.done r)):ay body N (S 0)=some r:=by
 have h:=NR S k hs 1
 have h1:ay body 1 (S k)=some r:=by rw [bK,hd]
 exact jd (h.trans h1) (by omega)
theorem fuel_lt {k:Nat} (h:k<=9223372036854775807):k<FUEL:=by unfold FUEL;omega
section
variable {α:Type} [Inhabited α]
theorem fG {l:List α} {i:Nat} (h:i<l.length):at' l i=l[i]:=by simp [at',h]
theorem at_mem {l:List α} {i:Nat} (h:i<l.length):at' l i∈l:=by rw [fG h];exact List.getElem_mem h
theorem iU {l:List α} {x:α} (h:x∈l): ∃i,i<l.length/\at' l i=x:=by
 obtain⟨i,hi,e⟩:=List.mem_iff_getElem.mp h
 exact⟨i,hi,by rw [fG hi];exact e⟩
theorem uT {l m:List α} (hl:l.length=m.length) (h: ∀i,i<l.length->at' l i=at' m i):l=m:=by
 apply List.ext_getElem hl
 intro i h1 h2
 have:=h i h1
 rwa [fG h1,fG h2]at this
theorem eD {l:List α} {i:Nat} (h:i<l.length):l.take (i+1)=l.take i++[at' l i]:=by
 rw [fG h,List.take_succ_eq_append_getElem h]
theorem pQ {ρ:Type} {body:Int->Option (aH Int (Ex Unit ρ))} (l:List α) (bad:α->Bool) (f:Int->ρ) (hl:l.length<=9223372036854775807)
  (hb: ∀i:Nat,i<l.length->body i=some (bif bad (at' l i)then .done (.ret (f i))else .next ((i:Int)+1))) (he:body l.length=some (.done (.brk ()))):
  ay body FUEL 0=some (match l.findIdx? bad with|some i=> .ret (f i)|none=> .brk ()):=by
 cases h:l.findIdx? bad with
 |none=>
  rw [List.findIdx?_eq_none_iff]at h
  refine aU (fun i=>(i:Int)) l.length _ (fuel_lt (by omega)) (fun i hi=> ?_) he
  rw [hb i hi,h _ (at_mem hi)];simp
 |some k=>
  rw [List.findIdx?_eq_some_iff_getElem]at h
  obtain⟨hk,hp,hn⟩:=h
  refine aU (fun i=>(i:Int)) k _ (fuel_lt (by omega)) (fun i hi=> ?_) ?_
  ·have:=hn i hi
   rw [hb i (by omega),fG (by omega)]
   simp [this]
  ·rw [hb k hk,fG hk,hp];rfl
omit [Inhabited α]in
theorem qg (l:List α) (bad:α->Bool):(decide ((0:Int)<=(match l.findIdx? bad with|some i=>(i:Int)|none=> -1)))=l.any bad:=by
 cases h:l.findIdx? bad with
 |none=>
  rw [List.findIdx?_eq_none_iff]at h
  have:l.any bad=false:=by rw [c9];intro x hx;simp [h x hx]
  rw [this];simp
 |some k=>
  rw [List.findIdx?_eq_some_iff_getElem]at h
  obtain⟨hk,hp,hn⟩:=h
  have:l.any bad=true:=by rw [c8];exact⟨_,List.getElem_mem hk,hp⟩
  rw [this];simp
end
section
variable {α:Type}
theorem BN {a b:Int}:cK a b=true↔a=b:=by simp [cK]
theorem IE (a:Int):cK a a=true:=BN.mpr rfl
theorem F9 {a b:Int} (h:a≠b):cK a b=false:=by cases e:cK a b with|false=>rfl|true=>exact absurd (BN.mp e) h
theorem jl (k:Int) (v:α): ∀l:List (Int × α),bC cK k (iC cK k v l)=some v
 |[]=>by simp [iC,bC,IE]
 |(k',v')::l=>by
  unfold iC
  cases e:cK k k' with
  |true=>simp [bC,IE]
  |false=>simp only [bu,bC,e];exact jl k v l
theorem lM {k j:Int} (h:j≠k) (v:α): ∀l:List (Int × α),bC cK j (iC cK k v l)=bC cK j l
 |[]=>by simp [iC,bC,F9 h]
 |(k',v')::l=>by
  unfold iC
  cases e:cK k k' with
  |true=>
   have:k=k':=BN.mp e
   subst this
   simp [bC,F9 h]
  |false=>simp only [bu,bC,lM h v l]
end
theorem Br {α:Type} (c:Bool) (x y:α):(bif c then some x else some y)=some (bif c then x else y):=by cases c<;>rfl
theorem fE {ρ:Type} {body:Int->Option (aH Int (Ex Unit ρ))} (n:Nat) (bad:Nat->Bool) (f:Int->ρ) (hl:n<=9223372036854775807)
  (hb: ∀i:Nat,i<n->body i=some (bif bad i then .done (.ret (f i))else .next ((i:Int)+1))) (he:body n=some (.done (.brk ()))):
  ay body FUEL 0=some (match(List.range n).find? bad with|some i=> .ret (f i)|none=> .brk ()):=by
 cases h:(List.range n).find? bad with
 |none=>
  rw [List.find?_eq_none]at h
  refine aU (fun i=>(i:Int)) n _ (fuel_lt (by omega)) (fun i hi=> ?_) he
  rw [hb i hi]
  have:=h i (List.mem_range.mpr hi)
  simp at this;simp [this]
 |some k=>
  rw [List.find?_range_eq_some]at h
  obtain⟨hp,hk,hn⟩:=h
  rw [c7]at hk
  refine aU (fun i=>(i:Int)) k _ (fuel_lt (by omega)) (fun i hi=> ?_) ?_
  ·have:=hn i hi
   rw [hb i (by omega)]
   simp at this;simp [this]
  ·rw [hb k hk,hp];rfl
theorem uV {α:Type} (p:α->Bool): ∀l:List α,(l.find? p).isSome=l.any p
 |[]=>rfl
 |x::l=>by
  rw [List.any_cons,List.find?_cons]
  cases h:p x with
  |true=>simp
  |false=>simpa using uV p l
def wi (n a b:Int):Bool:=decide (a<=n) && decide (n<=b)
theorem xJ {n a b:Int}:wi n a b=true↔a<=n/\n<=b:=by simp [wi]
theorem jI (n a b:Int):aV n a b=some (wi n a b):=by
 unfold aV wi;cases decide (a<=n)<;>rfl
def su (b:Int) (x:Source):Bool:=wi x.bus 0 (b - 1) && wi x.kind 1 3 && wi x.power 1 100000 && wi x.bp 0 8 && wi x.ohm 10 100000
theorem Uq {b:Int} (hb:1<=b/\b<=24) (x:Source) (l1:List Source) (l2:List Link) (l3:List aO):oM x b l1 l2 l3=some (su b x):=by
 unfold oM su
 simp only [jI,bs]
 rw [wr (by omega)]
 generalize wi x.bus 0 (b - 1)=b1
 generalize wi x.kind 1 3=b2
 generalize wi x.power 1 100000=b3
 generalize wi x.bp 0 8=b4
 generalize wi x.ohm 10 100000=b5
 cases b1<;>cases b2<;>cases b3<;>cases b4<;>cases b5<;>rfl
def mY (l:List nT) (i:Nat):Bool:=
 !wi (at' l i).amps 1 1000000|| !wi (at' l i).bm 1 100000||(decide (0<i) && (decide ((at' l i).amps<=(at' l (i - 1)).amps)||decide ((at' l (i - 1)).bm<=(at' l i).bm)))
def mQ (b:Int) (x:Link):Bool:=
 wi x.a 0 (b - 1) && wi x.b 0 (b - 1) && !decide (x.a=x.b) && wi x.kind 1 3 && wi x.most 1 100000 && wi x.ohm 10 100000 && !(List.range x.trip.length).any (mY x.trip) && decide ((x.trip.length:Int)<=6) && (decide ((x.trip.length:Int)=0)||decide (x.kind=3))
theorem Rz {α:Type} [Inhabited α] (l:List α) (i:Nat) (h:0<i):at' l (((i:Int) - 1).toNat)=at' l (i - 1):=by
 congr 1;omega
theorem X5 (x:Link) (hx:x.trip.length<=9223372036854775807):ay (nk x) FUEL 0=some (match(List.range x.trip.length).find? (mY x.trip)with|some _=> .ret false|none=> .brk ()):=by
 refine fE x.trip.length (mY x.trip) (fun _=>false) hx (fun i hi=> ?_) ?_
 ·unfold nk
  have h1:decide ((i:Int)<(x.trip.length:Int))=true:=by simp;omega
  rw [h1,bt,au (by omega)]
  simp only [jI,bs,bw]
  rw [wr (x:=(i:Int) - 1) (by omega),wr (x:=(i:Int)+1) (by omega)]
  unfold mY
  by_cases h0:0<i
  ·rw [Rz _ _ h0]
   simp only [h0,Int.natCast_pos,decide_true]
   generalize wi (at' x.trip i).amps 1 1000000=b1
   generalize wi (at' x.trip i).bm 1 100000=b2
   generalize decide ((at' x.trip i).amps<=(at' x.trip (i - 1)).amps)=b3
   generalize decide ((at' x.trip (i - 1)).bm<=(at' x.trip i).bm)=b4
   cases b1<;>cases b2<;>cases b3<;>cases b4<;>simp [gB,bg]<;>omega
  ·have:i=0:=by omega
   subst this
   generalize wi (at' x.trip 0).amps 1 1000000=b1
   generalize wi (at' x.trip 0).bm 1 100000=b2
   cases b1<;>cases b2<;>simp [gB,bg]
 ·unfold nk
  have h1:decide ((x.trip.length:Int)<(x.trip.length:Int))=false:=by simp
  rw [h1];rfl
theorem XO {b:Int} (hb:1<=b/\b<=24) (x:Link) (hx:x.trip.length<=9223372036854775807) (l1:List Source) (l2:List Link) (l3:List aO):qO x b l1 l2 l3=some (mQ b x):=by
 unfold qO mQ
 simp only [jI,bs]
 rw [wr (by omega),X5 x hx]
 generalize wi x.a 0 (b - 1)=b1
 generalize wi x.b 0 (b - 1)=b2
 generalize decide (x.a=x.b)=b3
 generalize wi x.kind 1 3=b4
 generalize wi x.most 1 100000=b5
 generalize wi x.ohm 10 100000=b6
 have:(List.range x.trip.length).any (mY x.trip)=((List.range x.trip.length).find? (mY x.trip)).isSome:=(uV _ _).symm
 rw [this]
 cases b1<;>cases b2<;>cases b3<;>cases b4<;>cases b5<;>cases b6<;>try rfl
 cases(List.range x.trip.length).find? (mY x.trip)with
 |some k=>simp [gB]
 |none=>
  simp only [gB,bs,Option.isSome_none]
  generalize decide ((x.trip.length:Int)<=6)=c1
  generalize decide ((x.trip.length:Int)=0)=c2
  generalize decide (x.kind=3)=c3
  cases c1<;>cases c2<;>cases c3<;>rfl
def rF (x:aO):Int:=if x.bj.e1= -1 then 1 else 2
def nM (b:Int) (x:aO):Bool:=wi x.bj.e0 0 (b - 1) && wi x.bj.e1 (-1) (b - 1) && !decide (x.bj.e0=x.bj.e1) && wi x.power 1 100000 && wi x.bk 0 (rF x)
theorem Wx (x:aO):rR x=some (rF x):=by
 unfold rR rF
 by_cases h:x.bj.e1= -1<;>simp [h]
theorem Y9 {b:Int} (hb:1<=b/\b<=24) (x:aO) (l1:List Source) (l2:List Link) (l3:List aO):qP x b l1 l2 l3=some (nM b x):=by
 unfold qP nM
 simp only [jI,bs,Wx]
 rw [wr (by omega)]
 generalize wi x.bj.e0 0 (b - 1)=b1
 generalize wi x.bj.e1 (-1) (b - 1)=b2
 generalize decide (x.bj.e0=x.bj.e1)=b3
 generalize hb4:wi x.power 1 100000=b4
 cases b1<;>cases b2<;>cases b3<;>cases b4<;>simp [gB]<;>rfl
theorem qj {α ρ:Type} [Inhabited α] {l:List α} {i:Nat} (hi:i<l.length) (hl:l.length<=9223372036854775807) (b:Bool) (f:Int->ρ) (G:Option (aH Int (Ex Unit ρ))):
  (bif (decide ((i:Int)<(l.length:Int)))then((some b).bind fun r_=>bg ((0:Int)<=(i:Int)/\(i:Int)<(l.length:Int)) (bif r_ then some (.done (.ret (f (i:Int))))else some (.next (IntKind.wrap .i64 ((i:Int)+1)))))else G)=some (bif b then .done (.ret (f i))else .next ((i:Int)+1)):=by
 have h1:decide ((i:Int)<(l.length:Int))=true:=by simp;omega
 rw [h1,bt,bs,au (by omega),wr (by omega)]
 cases b<;>rfl
theorem XG {b:Int} (hb:1<=b/\b<=24) (l:List Source) (hl:l.length<=9223372036854775807) (m:Int) (l1:List Source) (l2:List Link) (l3:List aO):
  uj l m b l1 l2 l3=some (decide ((l.length:Int)<=m) && l.all (su b)):=by
 have hs:jo l b l1 l2 l3=some (l.any fun x=> !su b x):=by
  unfold jo p9
  rw [pQ l (fun x=> !su b x) id hl (fun i hi=> ?_) ?_]
  ·rw [<-qg];cases l.findIdx? fun x=> !su b x<;>rfl
  ·unfold mH;simp
  ·unfold mH uY
   rw [bw,Uq hb,bs]
   exact qj hi hl _ id _
 unfold uj
 rw [hs]
 have:(!l.any fun x=> !su b x)=l.all (su b):=by rw [List.not_any_eq_all_not];simp
 rw [<-this]
 cases decide ((l.length:Int)<=m)<;>simp [gB]
theorem Ub {b:Int} (hb:1<=b/\b<=24) (l:List Link) (hl:l.length<=9223372036854775807) (ht: ∀x∈l,x.trip.length<=9223372036854775807) (m:Int) (l1:List Source) (l2:List Link) (l3:List aO):
  qy l m b l1 l2 l3=some (decide ((l.length:Int)<=m) && l.all (mQ b)):=by
 have hs:fV l b l1 l2 l3=some (l.any fun x=> !mQ b x):=by
  unfold fV mJ
  rw [pQ l (fun x=> !mQ b x) id hl (fun i hi=> ?_) ?_]
  ·rw [<-qg];cases l.findIdx? fun x=> !mQ b x<;>rfl
  ·unfold j5;simp
  ·unfold j5 qH
   rw [bw,XO hb _ (ht _ (at_mem hi)),bs]
   exact qj hi hl _ id _
 unfold qy
 rw [hs]
 have:(!l.any fun x=> !mQ b x)=l.all (mQ b):=by rw [List.not_any_eq_all_not];simp
 rw [<-this]
 cases decide ((l.length:Int)<=m)<;>simp [gB]
theorem Uv {b:Int} (hb:1<=b/\b<=24) (l:List aO) (hl:l.length<=9223372036854775807) (m:Int) (l1:List Source) (l2:List Link) (l3:List aO):
  qF l m b l1 l2 l3=some (decide ((l.length:Int)<=m) && l.all (nM b)):=by
 have hs:gu l b l1 l2 l3=some (l.any fun x=> !nM b x):=by
  unfold gu mG
  rw [pQ l (fun x=> !nM b x) id hl (fun i hi=> ?_) ?_]
  ·rw [<-qg];cases l.findIdx? fun x=> !nM b x<;>rfl
  ·unfold ku;simp
  ·unfold ku qw
   rw [bw,Y9 hb,bs]
   exact qj hi hl _ id _
 unfold qF
 rw [hs]
 have:(!l.any fun x=> !nM b x)=l.all (nM b):=by rw [List.not_any_eq_all_not];simp
 rw [<-this]
 cases decide ((l.length:Int)<=m)<;>simp [gB]
structure Small (p:ah):Prop where
 src:p.aa.length<=9223372036854775807
 lnk:p.aq.length<=9223372036854775807
 rck:p.a_.length<=9223372036854775807
 trp: ∀x∈p.aq,x.trip.length<=9223372036854775807
def pX (p:ah):Int:=
 if wi p.ar 1 24=false then 10 else if(decide ((p.aa.length:Int)<=8) && p.aa.all (su p.ar))=false then 11
 else if(decide ((p.aq.length:Int)<=40) && p.aq.all (mQ p.ar))=false then 12 else if(decide ((p.a_.length:Int)<=24) && p.a_.all (nM p.ar))=false then 13 else 0
theorem Jb (p:ah) (hp:Small p):pu p=some (pX p):=by
 unfold pu pX
 simp only [jI,bs,vQ,zk,yN]
 cases h0:wi p.ar 1 24 with
 |false=>simp
 |true=>
  have hb:=xJ.mp h0
  rw [XG hb _ hp.src,Ub hb _ hp.lnk hp.trp,Uv hb _ hp.rck]
  simp only [bs,cD,bu]
  generalize (decide ((p.aa.length:Int)<=8) && p.aa.all (su p.ar))=b1
  generalize (decide ((p.aq.length:Int)<=40) && p.aq.all (mQ p.ar))=b2
  generalize (decide ((p.a_.length:Int)<=24) && p.a_.all (nM p.ar))=b3
  cases b1<;>cases b2<;>cases b3<;>simp
def mO (p:ah) (s:State):Bool:=
 decide (s.ap.length=p.aq.length) && decide (s.aw.length=p.aq.length) && decide (s.ag.length=p.aq.length) && decide (s.on_.length=p.aa.length) && decide (s.ae.length=p.aa.length) &&
 decide ((s.am.length:Int)=p.ar) && decide ((s.al.length:Int)=p.ar)
def iG (p:ah) (s:State) (i:Nat):Bool:=decide ((at' p.aq i).kind=1) && (!at' s.ap i||at' s.aw i)
def rD (p:ah) (s:State):Int:=if pX p≠0 then pX p else if mO p s && !(List.range p.aq.length).any (iG p s)then 0 else 9
theorem pI (p:ah) (s:State) (hp:Small p):dQ p s=some (rD p s):=by
 unfold dQ rD
 rw [Jb p hp,bs]
 by_cases hc:pX p=0
 ·rw [hc]
  simp only [decide_true,cD,bu,ne_eq,not_true_eq_false,if_false]
  have h0:ay (jy p s) FUEL 0=some (bif mO p s then .brk ()else .ret 9):=by
   have key:=fE (body:=jy p s) 7 (fun i=> !decide (((at' [(⟨s.ap,(p.aq.length:Int)⟩:cO),(⟨s.aw,(p.aq.length:Int)⟩:cO),(⟨s.ag,(p.aq.length:Int)⟩:cO),(⟨s.on_,(p.aa.length:Int)⟩:cO),(⟨s.ae,(p.aa.length:Int)⟩:cO),(⟨s.am,p.ar⟩:cO),(⟨s.al,p.ar⟩:cO)] i).l.length:Int)=(at' [(⟨s.ap,(p.aq.length:Int)⟩:cO),(⟨s.aw,(p.aq.length:Int)⟩:cO),(⟨s.ag,(p.aq.length:Int)⟩:cO),(⟨s.on_,(p.aa.length:Int)⟩:cO),(⟨s.ae,(p.aa.length:Int)⟩:cO),(⟨s.am,p.ar⟩:cO),(⟨s.al,p.ar⟩:cO)] i).n)) (fun _=>(9:Int)) (by omega) (fun i hi=> ?_) ?_
   ·rw [key]
    have e:((List.range 7).find? fun i=> !decide (((at' [(⟨s.ap,(p.aq.length:Int)⟩:cO),(⟨s.aw,(p.aq.length:Int)⟩:cO),(⟨s.ag,(p.aq.length:Int)⟩:cO),(⟨s.on_,(p.aa.length:Int)⟩:cO),(⟨s.ae,(p.aa.length:Int)⟩:cO),(⟨s.am,p.ar⟩:cO),(⟨s.al,p.ar⟩:cO)] i).l.length:Int)=(at' [(⟨s.ap,(p.aq.length:Int)⟩:cO),(⟨s.aw,(p.aq.length:Int)⟩:cO),(⟨s.ag,(p.aq.length:Int)⟩:cO),(⟨s.on_,(p.aa.length:Int)⟩:cO),(⟨s.ae,(p.aa.length:Int)⟩:cO),(⟨s.am,p.ar⟩:cO),(⟨s.al,p.ar⟩:cO)] i).n)).isSome= !mO p s:=by
     rw [show List.range 7=[0,1,2,3,4,5,6]from rfl,uV]
     simp only [List.any_cons,List.any_nil,at',List.getD_cons_zero,List.getD_cons_succ,mO,Int.natCast_inj]
     simp [Bool.or_assoc]
    revert e
    cases hf:(List.range 7).find? _ with
    |none=>
     intro e
     have:mO p s=true:=by simpa using e.symm
     rw [this];rfl
    |some k=>
     intro e
     have:mO p s=false:=by simpa using e.symm
     rw [this];rfl
   ·have h1:decide ((i:Int)<7)=true:=by simp;omega
    unfold jy
    rw [show([(⟨s.ap,(p.aq.length:Int)⟩:cO),(⟨s.aw,(p.aq.length:Int)⟩:cO),(⟨s.ag,(p.aq.length:Int)⟩:cO),(⟨s.on_,(p.aa.length:Int)⟩:cO),(⟨s.ae,(p.aa.length:Int)⟩:cO),(⟨s.am,p.ar⟩:cO),(⟨s.al,p.ar⟩:cO)].length:Int)=7 from rfl,h1,bt,au (by omega),bw,wr (by omega)]
    exact Br _ _ _
   ·rfl
  rw [h0,bs]
  cases hL:mO p s with
  |false=>rfl
  |true=>
   simp only [bt,cQ]
   simp only [mO,cd,dc]at hL
   have h1:ay (jA p s) FUEL 0=some (match(List.range p.aq.length).find? (iG p s)with|some _=> .ret 9|none=> .brk ()):=by
    refine fE p.aq.length (iG p s) (fun _=>9) hp.lnk (fun i hi=> ?_) ?_
    ·unfold jA iG
     have h1:decide ((i:Int)<(p.aq.length:Int))=true:=by simp;omega
     have:=hp.lnk
     rw [h1,bt,au (by omega),bw,wr (by omega),au ⟨fun _=>by omega,fun _=>by omega⟩]
     generalize decide ((at' p.aq i).kind=1)=b1
     generalize at' s.ap i=b2
     generalize at' s.aw i=b3
     cases b1<;>cases b2<;>cases b3<;>rfl
    ·unfold jA;simp
   rw [h1,bs]
   have:(List.range p.aq.length).any (iG p s)=((List.range p.aq.length).find? (iG p s)).isSome:=(uV _ _).symm
   rw [this]
   cases(List.range p.aq.length).find? (iG p s)<;>rfl
 ·have:decide (pX p=0)=false:=by simp [hc]
  rw [this]
  simp [hc]
structure VL (b:Int) (x:Link):Prop where
 a:0<=x.a/\x.a<b
 b:0<=x.b/\x.b<b
 ab:x.a≠x.b
 kind:1<=x.kind/\x.kind<=3
 most:1<=x.most/\x.most<=100000
 ohm:10<=x.ohm/\x.ohm<=100000
 tl:x.trip.length<=6
 trip: ∀i,i<x.trip.length->mY x.trip i=false
 trk:x.trip=[]\/x.kind=3
structure acd (b:Int) (x:Source):Prop where
 bus:0<=x.bus/\x.bus<b
 kind:1<=x.kind/\x.kind<=3
 power:1<=x.power/\x.power<=100000
 bp:0<=x.bp/\x.bp<=8
 ohm:10<=x.ohm/\x.ohm<=100000
structure VR (b:Int) (x:aO):Prop where
 e0:0<=x.bj.e0/\x.bj.e0<b
 e1: -1<=x.bj.e1/\x.bj.e1<b
 ne:x.bj.e0≠x.bj.e1
 power:1<=x.power/\x.power<=100000
 bk:0<=x.bk/\x.bk<=rF x
structure VP (p:ah):Prop where
 b:1<=p.ar/\p.ar<=24
 sl:p.aa.length<=8
 src: ∀i,i<p.aa.length->acd p.ar (at' p.aa i)
 ll:p.aq.length<=40
 lnk: ∀i,i<p.aq.length->VL p.ar (at' p.aq i)
 rl:p.a_.length<=24
 rck: ∀i,i<p.a_.length->VR p.ar (at' p.a_ i)
structure VS (p:ah) (s:State):Prop where
 ap:s.ap.length=p.aq.length
 aw:s.aw.length=p.aq.length
 ag:s.ag.length=p.aq.length
 on:s.on_.length=p.aa.length
 ae:s.ae.length=p.aa.length
 am:(s.am.length:Int)=p.ar
 al:(s.al.length:Int)=p.ar
 cable: ∀i,i<p.aq.length->(at' p.aq i).kind=1->at' s.ap i=true/\at' s.aw i=false
theorem Lh {b:Int} {x:Source}:su b x=true↔acd b x:=by
 simp only [su,cd,xJ]
 exact⟨fun⟨⟨⟨⟨h1,h2⟩,h3⟩,h4⟩,h5⟩=> ⟨by omega,h2,h3,h4,h5⟩,fun h=> ⟨⟨⟨⟨by have:=h.bus;omega,h.kind⟩,h.power⟩,h.bp⟩,h.ohm⟩⟩
theorem JE {b:Int} {x:aO}:nM b x=true↔VR b x:=by
 simp only [nM,cd,xJ,da,db]
 exact⟨fun⟨⟨⟨⟨h1,h2⟩,h3⟩,h4⟩,h5⟩=> ⟨by omega,by omega,h3,h4,h5⟩,fun h=> ⟨⟨⟨⟨by have:=h.e0;omega,by have:=h.e1;omega⟩,h.ne⟩,h.power⟩,h.bk⟩⟩
theorem Ip {b:Int} {x:Link}:mQ b x=true↔VL b x:=by
 simp only [mQ,cd,xJ,da,db,cP,dc,c9,c7,Bool.not_eq_true]
 constructor
 ·rintro ⟨⟨⟨⟨⟨⟨⟨⟨h1,h2⟩,h3⟩,h4⟩,h5⟩,h6⟩,h7⟩,h8⟩,h9⟩
  exact⟨by omega,by omega,h3,h4,h5,h6,by omega,h7,h9.imp (fun h=>List.eq_nil_of_length_eq_zero (by omega)) id⟩
 ·intro h
  refine⟨⟨⟨⟨⟨⟨⟨⟨by have:=h.a;omega,by have:=h.b;omega⟩,h.ab⟩,h.kind⟩,h.most⟩,h.ohm⟩,h.trip⟩,by have:=h.tl;omega⟩,h.trk.imp (fun e=>by simp [e]) id⟩
theorem wN {p:ah}:pX p=0↔VP p:=by
 unfold pX
 constructor
 ·intro h
  cases h0:wi p.ar 1 24 with
  |false=>rw [h0]at h;simp at h
  |true=>
   rw [h0]at h
   cases h1:(decide ((p.aa.length:Int)<=8) && p.aa.all (su p.ar))with
   |false=>rw [h1]at h;simp at h
   |true=>
    rw [h1]at h
    cases h2:(decide ((p.aq.length:Int)<=40) && p.aq.all (mQ p.ar))with
    |false=>rw [h2]at h;simp at h
    |true=>
     rw [h2]at h
     cases h3:(decide ((p.a_.length:Int)<=24) && p.a_.all (nM p.ar))with
     |false=>rw [h3]at h;simp at h
     |true=>
      simp only [cd,dc,List.all_eq_true]at h1 h2 h3
      exact⟨xJ.mp h0,by omega,fun i hi=>Lh.mp (h1.2 _ (at_mem hi)),by omega,fun i hi=>Ip.mp (h2.2 _ (at_mem hi)),by omega,fun i hi=>JE.mp (h3.2 _ (at_mem hi))⟩
 ·intro h
  have h0:wi p.ar 1 24=true:=xJ.mpr h.b
  have h1:(decide ((p.aa.length:Int)<=8) && p.aa.all (su p.ar))=true:=by
   simp only [cd,dc,List.all_eq_true]
   exact⟨by have:=h.sl;omega,fun x hx=>by obtain⟨i,hi,rfl⟩:=iU hx;exact Lh.mpr (h.src i hi)⟩
  have h2:(decide ((p.aq.length:Int)<=40) && p.aq.all (mQ p.ar))=true:=by
   simp only [cd,dc,List.all_eq_true]
   exact⟨by have:=h.ll;omega,fun x hx=>by obtain⟨i,hi,rfl⟩:=iU hx;exact Ip.mpr (h.lnk i hi)⟩
  have h3:(decide ((p.a_.length:Int)<=24) && p.a_.all (nM p.ar))=true:=by
   simp only [cd,dc,List.all_eq_true]
   exact⟨by have:=h.rl;omega,fun x hx=>by obtain⟨i,hi,rfl⟩:=iU hx;exact JE.mpr (h.rck i hi)⟩
  rw [h0,h1,h2,h3];rfl
theorem VP.small {p:ah} (h:VP p):Small p:=by
 refine⟨by have:=h.sl;omega,by have:=h.ll;omega,by have:=h.rl;omega,fun x hx=> ?_⟩
 obtain⟨i,hi,rfl⟩:=iU hx
 have:=(h.lnk i hi).tl;omega
theorem iO {p:ah} {s:State}:rD p s=0↔VP p/\VS p s:=by
 unfold rD
 by_cases hc:pX p=0
 ·rw [ce (by simp [hc])]
  have hv:=wN.mp hc
  constructor
  ·intro h
   cases h1:(mO p s && !(List.range p.aq.length).any (iG p s))with
   |false=>rw [h1]at h;simp at h
   |true=>
    simp only [mO,cd,dc,da,c9,c7,iG,cP,not_and,not_or,Bool.not_eq_true]at h1
    obtain⟨⟨⟨⟨⟨⟨⟨h1,h2⟩,h3⟩,h4⟩,h5⟩,h6⟩,h7⟩,h8⟩:=h1
    exact⟨hv,h1,h2,h3,h4,h5,h6,h7,fun i hi hk=>by have:=h8 i hi hk;simpa using this⟩
  ·rintro ⟨_,h⟩
   have:(mO p s && !(List.range p.aq.length).any (iG p s))=true:=by
    simp only [mO,cd,dc,da,c9,c7,iG,cP,not_and,not_or,Bool.not_eq_true]
    exact⟨⟨⟨⟨⟨⟨⟨h.ap,h.aw⟩,h.ag⟩,h.on⟩,h.ae⟩,h.am⟩,h.al⟩,fun i hi hk=>by have:=h.cable i hi hk;simpa using this⟩
   rw [this];rfl
 ·rw [ci hc]
  exact⟨fun h=>absurd h hc,fun h=>absurd (wN.mpr h.1) hc⟩
def qI (p:ah) (s:State) (i:Nat):Bool:=at' s.ap i && !at' s.ag i && !at' s.al (at' p.aq i).a.toNat && !at' s.al (at' p.aq i).b.toNat
def iH (p:ah) (s:State) (k:Nat):Bool:=at' s.on_ k && !at' s.ae k && !at' s.al (at' p.aa k).bus.toNat
inductive Wk (p:ah) (s:State) (b:Nat):List Int->Nat->Prop where
 |nil:Wk p s b [] b
 |snoc {l:List Int} {v w i:Nat}:Wk p s b l v->i<p.aq.length->qI p s i=true->
   ((at' p.aq i).a.toNat=v/\(at' p.aq i).b.toNat=w\/(at' p.aq i).b.toNat=v/\(at' p.aq i).a.toNat=w)->Wk p s b (l++[(i:Int)]) w
def tab {α:Type} (n:Nat) (f:Nat->α):List α:=(List.range n).map f
section
variable {α:Type} [Inhabited α]
theorem aY (n:Nat) (f:Nat->α):(tab n f).length=n:=by simp [tab]
theorem rH {n:Nat} {f:Nat->α} {i:Nat} (h:i<n):at' (tab n f) i=f i:=by
 rw [fG (by rw [aY];exact h)];simp [tab]
theorem xO {n:Nat} {f g:Nat->α} (h: ∀i,i<n->f i=g i):tab n f=tab n g:=by
 unfold tab;exact List.map_congr_left fun i hi=>h i (List.mem_range.mp hi)
theorem YM {n:Nat} {f:Nat->α} {t:Nat} {v:α}:(tab n f).set t v=tab n (fun k=>if k=t then v else f k):=by
 apply uT (by simp [aY])
 intro i hi
 simp only [cJ,aY]at hi
 rw [rH hi]
 by_cases e:t=i
 ·subst e;rw [bU (by rw [aY];exact hi),ci rfl]
 ·rw [bM e,rH hi,ce (Ne.symm e)]
theorem YB (n:Nat) (x:α):List.replicate n x=tab n (fun _=>x):=uT (by simp [aY]) fun i hi=>by
 rw [dj]at hi;rw [jZ hi,rH hi]
end
def D6 (c:List Bool):Nat:=c.countP id
theorem NJ: ∀(c:List Bool) (i:Nat),i<c.length->at' c i=true->D6 (c.set i false)+1=D6 c
 |[],_,h,_=>by simp at h
 |b::c,0,_,h=>by
  have:b=true:=h
  subst this;simp [D6]
 |b::c,i+1,h,hb=>by
  have:=NJ c i (by simpa using h) hb
  simp only [D6,List.set_cons_succ,List.countP_cons]at this ⊢
  omega
theorem XU (c:List Bool):D6 c<=c.length:=List.countP_le_length
structure aaB (s:State):Prop where
 l0:s.ap.length<=1000000000
 l1:s.aw.length<=1000000000
 l2:s.ag.length<=1000000000
 l3:s.on_.length<=1000000000
 l4:s.ae.length<=1000000000
 l5:s.am.length<=1000000000
 l6:s.al.length<=1000000000
theorem VS.small {p:ah} {s:State} (hp:VP p) (h:VS p s):aaB s:=by
 have h1:=hp.ll;have h2:=hp.sl;have h3:=hp.b
 obtain⟨a1,a2,a3,a4,a5,a6,a7,_⟩:=h
 exact⟨by omega,by omega,by omega,by omega,by omega,by omega,by omega⟩
theorem AX (a b:Bool):(bif a then true else b)=(a||b):=by cases a<;>rfl
theorem R8 (a b:Bool):(bif a then b else false)=(a && b):=by cases a<;>rfl
theorem DR (n a b:Int):(decide (n<a)||decide (b<n))= !wi n a b:=by
 unfold wi
 by_cases h1:a<=n<;>by_cases h2:n<=b<;>simp [h1,h2]<;>omega
theorem Qz (x:Link) (hx:x.trip.length<=9223372036854775807):ay (pK x) FUEL 0=some (match(List.range x.trip.length).find? (mY x.trip)with|some _=> .ret false|none=> .brk ()):=by
 refine fE x.trip.length (mY x.trip) (fun _=>false) hx (fun i hi=> ?_) ?_
 ·have h1:decide ((i:Int)<(x.trip.length:Int))=true:=bx (by omega)
  unfold pK
  simp only [bw]
  rw [h1,bt,au (by omega)]
  simp only [AX]
  rw [DR,Bool.or_assoc,DR]
  unfold mY
  by_cases h0:0<i
  ·have hd:decide ((0:Int)<(i:Int))=true:=bx (by omega)
   rw [wr (show -9223372036854775808<=(i:Int) - 1/\(i:Int) - 1<=9223372036854775807 by omega),Rz _ _ h0,au ⟨fun _=>by omega,fun _=>by omega⟩,hd,wr (by omega),bx h0]
   generalize wi (at' x.trip i).amps 1 1000000=b1
   generalize wi (at' x.trip i).bm 1 100000=b2
   generalize decide ((at' x.trip i).amps<=(at' x.trip (i - 1)).amps)=b3
   generalize decide ((at' x.trip (i - 1)).bm<=(at' x.trip i).bm)=b4
   cases b1<;>cases b2<;>cases b3<;>cases b4<;>rfl
  ·have hi0:i=0:=by omega
   subst hi0
   rw [au ⟨fun h=>by simp [gB]at h,fun h=>by simp [gB]at h⟩]
   generalize wi (at' x.trip 0).amps 1 1000000=b1
   generalize wi (at' x.trip 0).bm 1 100000=b2
   cases b1<;>cases b2<;>rfl
 ·have h1:decide ((x.trip.length:Int)<(x.trip.length:Int))=false:=bz (by omega)
  unfold pK
  rw [h1];rfl
theorem X6 (n a b:Int):(decide (n<a)||decide (b<=n))= !wi n a (b - 1):=by
 rw [<-DR];congr 1;exact decide_eq_decide.mpr (by omega)
theorem IG (n a b:Int) (c:Bool):(decide (n<a)||(decide (b<=n)||c))=(!wi n a (b - 1)||c):=by rw [<-Bool.or_assoc,X6]
theorem Qd (p:ah) (x:Link) (hx:x.trip.length<=9223372036854775807):uz p x=some (mQ p.ar x):=by
 unfold uz mQ
 rw [Qz x hx]
 simp only [AX,R8,Bool.or_assoc,DR,IG]
 generalize wi x.a 0 (p.ar - 1)=b1
 generalize wi x.b 0 (p.ar - 1)=b2
 generalize wi x.kind 1 3=b4
 generalize wi x.most 1 100000=b5
 generalize wi x.ohm 10 100000=b6
 have:(List.range x.trip.length).any (mY x.trip)=((List.range x.trip.length).find? (mY x.trip)).isSome:=(uV _ _).symm
 rw [this]
 have e6:decide ((x.trip.length:Int)<=6)= !decide (6<(x.trip.length:Int)):=by
  by_cases h:(x.trip.length:Int)<=6<;>simp [h]<;>omega
 have e0:decide ((x.trip.length:Int)=0)= !decide (0<(x.trip.length:Int)):=by
  rw [<-decide_not];exact decide_eq_decide.mpr (by omega)
 rw [e6,e0]
 generalize decide (6<(x.trip.length:Int))=b7
 generalize decide (0<(x.trip.length:Int))=b8
 generalize decide (x.kind=3)=b9
 generalize decide (x.a=x.b)=b3
 cases(List.range x.trip.length).find? (mY x.trip)<;>cases b1<;>cases b2<;>cases b3<;>cases b4<;>cases b5<;>cases b6<;>cases b7<;>cases b8<;>cases b9<;>rfl
theorem Sr (p:ah) (hl:p.aa.length<=9223372036854775807):ay (oI p) FUEL 0=some (match(List.range p.aa.length).find? (fun i=> !su p.ar (at' p.aa i))with|some _=> .ret 11|none=> .brk ()):=by
 refine fE p.aa.length _ (fun _=>11) hl (fun i hi=> ?_) ?_
 ·have h1:decide ((i:Int)<(p.aa.length:Int))=true:=bx (by omega)
  unfold oI
  simp only [bw]
  rw [h1,bt,au (by omega),wr (by omega)]
  simp only [AX,Bool.or_assoc,DR,IG]
  unfold su
  generalize wi (at' p.aa i).bus 0 (p.ar - 1)=b1
  generalize wi (at' p.aa i).kind 1 3=b2
  generalize wi (at' p.aa i).power 1 100000=b3
  generalize wi (at' p.aa i).bp 0 8=b4
  generalize wi (at' p.aa i).ohm 10 100000=b5
  cases b1<;>cases b2<;>cases b3<;>cases b4<;>cases b5<;>rfl
 ·have h1:decide ((p.aa.length:Int)<(p.aa.length:Int))=false:=bz (by omega)
  unfold oI
  rw [h1];rfl
theorem NI (p:ah) (hl:p.aq.length<=9223372036854775807) (ht: ∀x∈p.aq,x.trip.length<=9223372036854775807):ay (oD p) FUEL 0=some (match(List.range p.aq.length).find? (fun i=> !mQ p.ar (at' p.aq i))with|some _=> .ret 12|none=> .brk ()):=by
 refine fE p.aq.length _ (fun _=>12) hl (fun i hi=> ?_) ?_
 ·have h1:decide ((i:Int)<(p.aq.length:Int))=true:=bx (by omega)
  unfold oD
  simp only [bw]
  rw [h1,bt,Qd p _ (ht _ (at_mem hi)),bs,au (by omega),wr (by omega)]
  exact Br _ _ _
 ·have h1:decide ((p.aq.length:Int)<(p.aq.length:Int))=false:=bz (by omega)
  unfold oD
  rw [h1];rfl
theorem Nq (p:ah) (hl:p.a_.length<=9223372036854775807):ay (oJ p) FUEL 0=some (match(List.range p.a_.length).find? (fun i=> !nM p.ar (at' p.a_ i))with|some _=> .ret 13|none=> .brk ()):=by
 refine fE p.a_.length _ (fun _=>13) hl (fun i hi=> ?_) ?_
 ·have h1:decide ((i:Int)<(p.a_.length:Int))=true:=bx (by omega)
  unfold oJ
  simp only [bw]
  rw [h1,bt,au (by omega),wr (by omega)]
  simp only [AX,Bool.or_assoc,DR,IG]
  unfold nM rF
  by_cases h:(at' p.a_ i).bj.e1= -1
  ·rw [bx h,bt,ci h]
   generalize wi (at' p.a_ i).bj.e0 0 (p.ar - 1)=b1
   generalize wi (at' p.a_ i).bj.e1 (-1) (p.ar - 1)=b2
   generalize wi (at' p.a_ i).power 1 100000=b3
   generalize wi (at' p.a_ i).bk 0 1=b4
   generalize decide ((at' p.a_ i).bj.e0=(at' p.a_ i).bj.e1)=b5
   cases b1<;>cases b2<;>cases b3<;>cases b4<;>cases b5<;>rfl
  ·rw [bz h,bu,ce h]
   generalize wi (at' p.a_ i).bj.e0 0 (p.ar - 1)=b1
   generalize wi (at' p.a_ i).bj.e1 (-1) (p.ar - 1)=b2
   generalize wi (at' p.a_ i).power 1 100000=b3
   generalize wi (at' p.a_ i).bk 0 2=b4
   generalize decide ((at' p.a_ i).bj.e0=(at' p.a_ i).bj.e1)=b5
   cases b1<;>cases b2<;>cases b3<;>cases b4<;>cases b5<;>rfl
 ·have h1:decide ((p.a_.length:Int)<(p.a_.length:Int))=false:=bz (by omega)
  unfold oJ
  rw [h1];rfl
theorem EJ {α:Type} [Inhabited α] (l:List α) (ok:α->Bool):((List.range l.length).find? fun i=> !ok (at' l i)).isNone=l.all ok:=by
 cases h:(List.range l.length).find? fun i=> !ok (at' l i)with
 |none=>
  rw [List.find?_eq_none]at h
  symm
  rw [Option.isNone_none,List.all_eq_true]
  intro x hx
  obtain⟨i,hi,e⟩:=iU hx
  have:=h i (List.mem_range.mpr hi)
  rw [e]at this;simpa using this
 |some k=>
  rw [List.find?_range_eq_some]at h
  obtain⟨h1,h2,_⟩:=h
  rw [c7]at h2
  symm
  rw [Option.isNone_some,List.all_eq_false]
  exact⟨_,at_mem h2,by simpa using h1⟩
theorem wW (p:ah) (hp:Small p):mr p=some (pX p):=by
 unfold mr pX
 rw [Sr p hp.src,NI p hp.lnk hp.trp,Nq p hp.rck]
 rw [<-EJ p.aa,<-EJ p.aq,<-EJ p.a_]
 simp only [AX,DR]
 have e1:decide (8<(p.aa.length:Int))= !decide ((p.aa.length:Int)<=8):=by
  by_cases h:(p.aa.length:Int)<=8<;>simp [h]<;>omega
 have e2:decide (40<(p.aq.length:Int))= !decide ((p.aq.length:Int)<=40):=by
  by_cases h:(p.aq.length:Int)<=40<;>simp [h]<;>omega
 have e3:decide (24<(p.a_.length:Int))= !decide ((p.a_.length:Int)<=24):=by
  by_cases h:(p.a_.length:Int)<=24<;>simp [h]<;>omega
 rw [e1,e2,e3]
 generalize wi p.ar 1 24=b1
 generalize decide ((p.aa.length:Int)<=8)=b2
 generalize decide ((p.aq.length:Int)<=40)=b3
 generalize decide ((p.a_.length:Int)<=24)=b4
 cases(List.range p.aa.length).find? (fun i=> !su p.ar (at' p.aa i))<;>cases(List.range p.aq.length).find? (fun i=> !mQ p.ar (at' p.aq i))<;>cases(List.range p.a_.length).find? (fun i=> !nM p.ar (at' p.a_ i))<;>
  cases b1<;>cases b2<;>cases b3<;>cases b4<;>rfl
theorem OW (p:ah) (s:State) (hl:p.aq.length<=9223372036854775807) (h1:s.ap.length=p.aq.length) (h2:s.aw.length=p.aq.length):
  ay (oF p s) FUEL 0=some (match(List.range p.aq.length).find? (iG p s)with|some _=> .ret false|none=> .brk ()):=by
 refine fE p.aq.length _ (fun _=>false) hl (fun i hi=> ?_) ?_
 ·have hd:decide ((i:Int)<(p.aq.length:Int))=true:=bx (by omega)
  unfold oF
  simp only [bw]
  rw [hd,bt,au ⟨by omega,fun _=>by omega,fun _=>by omega⟩,wr (by omega)]
  unfold iG
  cases decide ((at' p.aq i).kind=1)<;>cases at' s.ap i<;>cases at' s.aw i<;>rfl
 ·have hd:decide ((p.aq.length:Int)<(p.aq.length:Int))=false:=bz (by omega)
  unfold oF
  rw [hd];rfl
theorem OM (p:ah) (s:State) (hl:p.aq.length<=9223372036854775807):rQ p s=some (mO p s && !(List.range p.aq.length).any (iG p s)):=by
 unfold rQ
 simp only [AX]
 have e:(!decide ((s.ap.length:Int)=(p.aq.length:Int))|| !decide ((s.aw.length:Int)=(p.aq.length:Int))|| !decide ((s.ag.length:Int)=(p.aq.length:Int))|| !decide ((s.on_.length:Int)=(p.aa.length:Int))|| !decide ((s.ae.length:Int)=(p.aa.length:Int))|| !decide ((s.am.length:Int)=p.ar)|| !decide ((s.al.length:Int)=p.ar))= !mO p s:=by
  unfold mO
  simp only [Int.natCast_inj,Bool.not_and]
 rw [e]
 cases hL:mO p s with
 |false=>rfl
 |true=>
  have hL':=hL
  unfold mO at hL'
  simp only [cd,dc]at hL'
  rw [OW p s hl hL'.1.1.1.1.1.1 hL'.1.1.1.1.1.2,<-uV]
  cases(List.range p.aq.length).find? (iG p s)<;>rfl
theorem kK (p:ah) (s:State) (hp:Small p):dw p s=some (rD p s):=by
 unfold dw rD
 rw [wW p hp,bs,OM p s hp.lnk]
 by_cases h:pX p=0
 ·rw [bx h,ce (by simp [h])]
  generalize (mO p s && !(List.range p.aq.length).any (iG p s))=b
  cases b<;>simp [gB,h]
 ·rw [bz h,ci h]
  simp [gB]
section
variable {p:ah} {s:State} (hp:VP p) (hs:VS p s)
include hp hs
theorem Jl {i:Nat} (hi:i<p.aq.length):fO p s (i:Int)=some (qI p s i):=by
 have hl:=hp.lnk i hi
 have ha:=hl.a;have hb:=hl.b;have h1:=hs.ap;have h2:=hs.ag;have h3:=hs.al
 unfold fO qI
 simp only [bw]
 rw [au ⟨by omega,fun _=>by omega,fun _=>by omega,fun _=>by omega,fun _=>by omega,fun _=>by omega⟩]
 cases at' s.ap i<;>cases at' s.ag i<;>cases at' s.al (at' p.aq i).a.toNat<;>cases at' s.al (at' p.aq i).b.toNat<;>rfl
theorem AZ {k:Nat} (hk:k<p.aa.length):iP p s (k:Int)=some (iH p s k):=by
 have hl:=(hp.src k hk).bus;have h1:=hs.on;have h2:=hs.ae;have h3:=hs.al
 unfold iP iH
 simp only [bw]
 rw [au ⟨by omega,fun _=>by omega,fun _=>by omega,fun _=>by omega⟩]
 cases at' s.on_ k<;>cases at' s.ae k<;>cases at' s.al (at' p.aa k).bus.toNat<;>rfl
end
def Ch (hd:List (Int × Int)):Nat->Int->Int->Prop
 |0,x,r=>bC cK x hd=none/\r=x
 |k+1,x,r=> ∃y,bC cK x hd=some y/\Ch hd k y r
theorem of_run {hd:List (Int × Int)}: ∀(k:Nat) (x r:Int),Ch hd k x r->ay (eP ⟨hd⟩) (k+1) x=some (.ret r)
 |0,x,r,h=>by
  obtain⟨h,e⟩:=h
  rw [bK];unfold eP;simp [h,e]
 |k+1,x,r,h=>by
  obtain⟨y,h,hc⟩:=h
  have:eP ⟨hd⟩ x=some (.next y):=by unfold eP;simp [h]
  rw [bK,this]
  exact of_run k y r hc
theorem of_eq {hd:List (Int × Int)} {k:Nat} {x r:Int} (h:Ch hd k x r) (hk:k<=1000):di ⟨hd⟩ x=some r:=by
 unfold di
 rw [jd (of_run k x r h) (by unfold FUEL;omega)];rfl
theorem Ch.root {hd:List (Int × Int)}: ∀{k:Nat} {x r:Int},Ch hd k x r->bC cK r hd=none
 |0,x,r,h=>by obtain⟨h,e⟩:=h;rw [e];exact h
 |k+1,x,r,h=>by obtain⟨y,_,hc⟩:=h;exact hc.root
theorem Ch.set {hd:List (Int × Int)} {a b:Int} (hab:a≠b) (ha:bC cK a hd=none) (hb:bC cK b hd=none): ∀{k:Nat} {x r:Int},Ch hd k x r->
  ∃k',k'<=k+1/\Ch (iC cK a b hd) k' x (if r=a then b else r)
 |0,x,r,h=>by
  obtain⟨h,e⟩:=h
  subst e
  by_cases e:r=a
  ·subst e
   rw [ci rfl]
   exact⟨1,by omega,b,jl _ _ _,by rw [lM (Ne.symm hab)];exact hb,rfl⟩
  ·rw [ce e]
   exact⟨0,by omega,by rw [lM e];exact h,rfl⟩
 |k+1,x,r,h=>by
  obtain⟨y,h,hc⟩:=h
  obtain⟨k',hk,hc'⟩:=hc.set hab ha hb
  have:x≠a:=fun e=>by rw [e,ha]at h;cases h
  exact⟨k'+1,by omega,y,by rw [lM this];exact h,hc'⟩
section
variable {p:ah} {s:State}
theorem Wk.trans {u v w:Nat} {l m:List Int} (h:Wk p s u l v) (h':Wk p s v m w):Wk p s u (l++m) w:=by
 induction h' with
 |nil=>simpa using h
 |snoc _ hi hc he ih=>rw [<-cS];exact ih.snoc hi hc he
theorem Wk.symm {u v:Nat} {l:List Int} (h:Wk p s u l v): ∃m,Wk p s v m u:=by
 induction h with
 |nil=>exact⟨[], .nil⟩
 |snoc _ hi hc he ih=>
  obtain⟨m,hm⟩:=ih
  exact⟨_,(Wk.nil.snoc hi hc (he.symm.imp id id|>.elim (fun⟨a,b⟩=> .inl ⟨b,a⟩) fun⟨a,b⟩=> .inr ⟨b,a⟩)).trans hm⟩
def uL (p:ah) (s:State):Nat->List (Int × Int) × (Int->Int)
 |0=>([],id)
 |n+1=>
  let q:=uL p s n
  if qI p s n=true/\q.2 (at' p.aq n).a≠q.2 (at' p.aq n).b then
   (iC cK (q.2 (at' p.aq n).a) (q.2 (at' p.aq n).b) q.1,fun x=>if q.2 x=q.2 (at' p.aq n).a then q.2 (at' p.aq n).b else q.2 x)
  else q
structure UF (p:ah) (s:State) (n:Nat) (hd:List (Int × Int)) (f:Int->Int):Prop where
 ch: ∀x,∃k,k<=n/\Ch hd k x (f x)
 cn: ∀x:Nat,(x:Int)<p.ar->0<=f x/\f x<p.ar/\ ∃l,Wk p s x l (f x).toNat
 ed: ∀i,i<n->qI p s i=true->f (at' p.aq i).a=f (at' p.aq i).b
theorem uf (hp:VP p): ∀n,n<=p.aq.length->UF p s n (uL p s n).1 (uL p s n).2
 |0,_=> ⟨fun x=> ⟨0,cx _,rfl,rfl⟩,fun x hx=> ⟨by show(0:Int)<=x;omega,hx,[],by show Wk p s x [] ((x:Int).toNat);simp;exact .nil⟩,fun i hi=>absurd hi (cL _)⟩
 |n+1,hn=>by
  have h:=uf hp n (by omega)
  have hl:=hp.lnk n (by omega)
  unfold uL
  by_cases hc:qI p s n=true/\(uL p s n).2 (at' p.aq n).a≠(uL p s n).2 (at' p.aq n).b
  ·rw [ci hc]
   obtain⟨hc1,hc2⟩:=hc
   obtain⟨ka,_,ca⟩:=h.ch (at' p.aq n).a
   obtain⟨kb,_,cb⟩:=h.ch (at' p.aq n).b
   refine⟨fun x=> ?_,fun x hx=> ?_,fun i hi hci=> ?_⟩
   ·obtain⟨k,hk,c⟩:=h.ch x
    obtain⟨k',hk',c'⟩:=c.set hc2 ca.root cb.root
    exact⟨k',by omega,c'⟩
   ·obtain⟨h0,h1,l,hw⟩:=h.cn x hx
    simp only
    by_cases e:(uL p s n).2 x=(uL p s n).2 (at' p.aq n).a
    ·rw [ci e]
     have ha:=hl.a;have hb:=hl.b
     obtain⟨_,_,la,wa⟩:=h.cn (at' p.aq n).a.toNat (by omega)
     obtain⟨b0,b1,lb,wb⟩:=h.cn (at' p.aq n).b.toNat (by omega)
     have ea:(((at' p.aq n).a.toNat:Nat):Int)=(at' p.aq n).a:=by omega
     have eb:(((at' p.aq n).b.toNat:Nat):Int)=(at' p.aq n).b:=by omega
     rw [ea,<-e]at wa
     rw [eb]at wb b0 b1
     obtain⟨m,wm⟩:=wa.symm
     refine⟨b0,b1,_,((hw.trans wm).snoc (by omega) hc1 (.inl ⟨rfl,rfl⟩)).trans wb⟩
    ·rw [ce e];exact⟨h0,h1,l,hw⟩
   ·simp only
    by_cases e:i=n
    ·subst e;rw [ci rfl]
     by_cases e2:(uL p s i).2 (at' p.aq i).b=(uL p s i).2 (at' p.aq i).a
     ·rw [ci e2]
     ·rw [ce e2]
    ·rw [h.ed i (by omega) hci]
  ·rw [ce hc]
   refine⟨fun x=> ?_,h.cn,fun i hi hci=> ?_⟩
   ·obtain⟨k,hk,c⟩:=h.ch x;exact⟨k,by omega,c⟩
   ·by_cases e:i=n
    ·subst e
     by_cases e2:(uL p s i).2 (at' p.aq i).a=(uL p s i).2 (at' p.aq i).b
     ·exact e2
     ·exact absurd ⟨hci,e2⟩ hc
    ·exact h.ed i (by omega) hci
def bA (p:ah) (s:State) (x:Nat):Int:=(uL p s p.aq.length).2 x
theorem uQ (hp:VP p) {u v:Nat} (hu:(u:Int)<p.ar) (hv:(v:Int)<p.ar):bA p s u=bA p s v↔ ∃l,Wk p s u l v:=by
 have h:=uf (s:=s) hp p.aq.length (cx _)
 constructor
 ·intro e
  obtain⟨_,_,l,w⟩:=h.cn u hu
  obtain⟨_,_,m,w'⟩:=h.cn v hv
  obtain⟨m',w''⟩:=w'.symm
  have:(uL p s p.aq.length).2 u=(uL p s p.aq.length).2 v:=e
  rw [this]at w
  exact⟨_,w.trans w''⟩
 ·rintro ⟨l,w⟩
  clear hv
  induction w with
  |nil=>rfl
  |snoc w hi hc he ih=>
   rename_i i
   rw [ih]
   have hl:=hp.lnk i hi
   have ha:=hl.a;have hb:=hl.b
   have ed:=h.ed i hi hc
   unfold bA
   rcases he with⟨e1,e2⟩|⟨e1,e2⟩
   ·rw [<-e1,<-e2,Int.toNat_of_nonneg (by omega),Int.toNat_of_nonneg (by omega),ed]
   ·rw [<-e1,<-e2,Int.toNat_of_nonneg (by omega),Int.toNat_of_nonneg (by omega),ed]
theorem Hz (hp:VP p) (x:Int):di ⟨(uL p s p.aq.length).1⟩ x=some ((uL p s p.aq.length).2 x):=by
 obtain⟨k,hk,c⟩:=(uf (s:=s) hp p.aq.length (cx _)).ch x
 have:=hp.ll
 exact of_eq c (by omega)
theorem join_eq (hp:VP p) {n:Nat} (hn:n<p.aq.length) (hc:qI p s n=true):kJ ⟨(uL p s n).1⟩ (at' p.aq n).a (at' p.aq n).b=some (uL p s (n+1)).1:=by
 have h:=uf (s:=s) hp n (by omega)
 have:=hp.ll
 obtain⟨ka,_,ca⟩:=h.ch (at' p.aq n).a
 obtain⟨kb,_,cb⟩:=h.ch (at' p.aq n).b
 unfold kJ
 rw [of_eq ca (by omega),of_eq cb (by omega)]
 simp only [bs]
 rw [uL]
 by_cases e:(uL p s n).2 (at' p.aq n).a=(uL p s n).2 (at' p.aq n).b
 ·simp [e]
 ·simp [e,hc]
end
theorem lD {α:Type} [Inhabited α] {l m:List α} {j:Nat} (h:j<l.length):at' (l++m) j=at' l j:=by
 rw [fG (by rw [b_];omega),fG h,List.getElem_append_left]
theorem nN {α:Type} [Inhabited α] (l:List α) (x:α):at' (l++[x]) l.length=x:=by
 rw [fG (by simp)];simp
section
variable {p:ah} {s:State} (hp:VP p) (hs:VS p s)
include hp hs
theorem TN {i:Nat} (hi:i<p.aq.length):dL p.aq s.ap s.ag s.al ((uL p s i).1,(i:Int))=some (.next ((uL p s (i+1)).1,((i+1:Nat):Int))):=by
 have hl:=hp.lnk i hi
 have ha:=hl.a;have hb:=hl.b;have h1:=hs.ap;have h2:=hs.ag;have h3:=hs.al;have hll:=hp.ll
 have hd:decide ((i:Int)<(p.aq.length:Int))=true:=bx (by omega)
 have hcb:(bif (bif (bif (at' s.ap i)then(!(at' s.ag i))else false)then(!(at' s.al (((at' p.aq i).a).toNat)))else false)then(!(at' s.al (((at' p.aq i).b).toNat)))else false)=qI p s i:=by
  unfold qI
  cases at' s.ap i<;>cases at' s.ag i<;>cases at' s.al (at' p.aq i).a.toNat<;>cases at' s.al (at' p.aq i).b.toNat<;>rfl
 unfold dL
 simp only [bw]
 rw [hd,bt,au (by omega),hcb]
 cases hc:qI p s i with
 |true=>
  rw [bt]
  unfold nO
  rw [join_eq hp hi hc]
  simp only [bs]
  rw [au ⟨by omega,fun _=>by omega,fun _=>by omega,fun _=>by omega⟩,wr (by omega)]
  rfl
 |false=>
  rw [bu,au ⟨by omega,fun _=>by omega,fun _=>by omega,fun _=>by omega⟩,wr (by omega)]
  have:uL p s (i+1)=uL p s i:=by rw [uL];simp [hc]
  rw [this];rfl
theorem CG:oh p.ar p.aa p.aq p.a_ s.ap s.aw s.ag s.on_ s.ae s.am s.al ⟨[]⟩=some ⟨(uL p s p.aq.length).1⟩:=by
 have hll:=hp.ll
 have key:ay (dL p.aq s.ap s.ag s.al) FUEL ((uL p s 0).1,((0:Nat):Int))=some (.brk (uL p s p.aq.length).1):=by
  refine aU (fun i=>((uL p s i).1,(i:Int))) p.aq.length _ (fuel_lt (by omega)) (fun i hi=>TN hp hs hi) ?_
  unfold dL
  simp
 show(ay (dL p.aq s.ap s.ag s.al) FUEL ((uL p s 0).1,((0:Nat):Int))).bind _=_
 rw [key];rfl
omit hs
structure II (p:ah) (s:State) (t n:Nat) (out:List aI) (m:List (Int × Int)):Prop where
 ix: ∀h i,bC cK h m=some i->0<=i/\i<(out.length:Int)
 inj: ∀h h' i,bC cK h m=some i->bC cK h' m=some i->h=h'
 cov: ∀b:Nat,b<t->at' s.al b=false-> ∃j:Nat,bC cK (bA p s b) m=some (j:Int)/\(b:Int)∈(at' out j).ar
 mem: ∀j,j<out.length-> ∀x∈(at' out j).ar,∃b:Nat,x=b/\b<t/\at' s.al b=false/\bC cK (bA p s b) m=some (j:Int)
 src: ∀j,j<out.length->(at' out j).aa=[]
 len:out.length<=n
 bl: ∀j,j<out.length->(at' out j).ar.length<=t
omit hp
theorem II.fresh {t n:Nat} {out:List aI} {m:List (Int × Int)} {h0:Int} (g:II p s t n out m) (hn:bC cK h0 m=none):II p s t (n+1) (out++[⟨[],[]⟩]) (iC cK h0 (out.length:Int) m):=by
 have old: ∀h i,h≠h0->bC cK h (iC cK h0 (out.length:Int) m)=some i->bC cK h m=some i:=fun h i e q=>by rwa [lM e]at q
 refine⟨fun h i q=> ?_,fun h h' i q q'=> ?_,fun b hb hbad=> ?_,fun j hj x hx=> ?_,fun j hj=> ?_, ?_,fun j hj=> ?_⟩
 ·rw [b_]
  by_cases e:h=h0
  ·subst e;rw [jl]at q;cases q;simp;omega
  ·have:=g.ix h i (old h i e q);simp;omega
 ·by_cases e:h=h0
  ·subst e;rw [jl]at q;cases q
   by_cases e':h'=h
   ·exact e'.symm
   ·have:=g.ix h' _ (old h' _ e' q');omega
  ·by_cases e':h'=h0
   ·subst e';rw [jl]at q';cases q'
    have:=g.ix h _ (old h _ e q);omega
   ·exact g.inj h h' i (old h i e q) (old h' i e' q')
 ·obtain⟨j,q,hx⟩:=g.cov b hb hbad
  have e:bA p s b≠h0:=fun e=>by rw [e,hn]at q;cases q
  have:=g.ix _ _ q
  exact⟨j,by rw [lM e];exact q,by rw [lD (by omega)];exact hx⟩
 ·rw [b_]at hj
  by_cases e:j<out.length
  ·rw [lD e]at hx
   obtain⟨b,h1,h2,h3,q⟩:=g.mem j e x hx
   have e:bA p s b≠h0:=fun e=>by rw [e,hn]at q;cases q
   exact⟨b,h1,h2,h3,by rw [lM e];exact q⟩
  ·have:j=out.length:=by simp at hj;omega
   subst this
   rw [nN]at hx;simp at hx
 ·rw [b_]at hj
  by_cases e:j<out.length
  ·rw [lD e];exact g.src j e
  ·have:j=out.length:=by simp at hj;omega
   subst this;rw [nN]
 ·rw [b_];have:=g.len;simp;omega
 ·rw [b_]at hj
  by_cases e:j<out.length
  ·rw [lD e];exact g.bl j e
  ·have:j=out.length:=by simp at hj;omega
   subst this;rw [nN];simp
theorem II.add {t n:Nat} {out:List aI} {m:List (Int × Int)} (g:II p s t n out m) (hbad:at' s.al t=false) {j:Nat} (hj:bC cK (bA p s t) m=some (j:Int)):
  II p s (t+1) n (out.set j ⟨(at' out j).ar++[(t:Int)],(at' out j).aa⟩) m:=by
 have hjl:=(g.ix _ _ hj).2
 refine⟨fun h i q=>by rw [cJ];exact g.ix h i q,g.inj,fun b hb hbb=> ?_,fun i hi x hx=> ?_,fun i hi=> ?_,by rw [cJ];exact g.len,fun i hi=> ?_⟩
 ·by_cases e:b=t
  ·subst e
   exact⟨j,hj,by rw [bU (by omega)];simp⟩
  ·obtain⟨i,q,hx⟩:=g.cov b (by omega) hbb
   refine⟨i,q, ?_⟩
   by_cases e2:j=i
   ·subst e2;rw [bU (by omega)];simp [hx]
   ·rw [bM e2];exact hx
 ·rw [cJ]at hi
  by_cases e2:j=i
  ·subst e2
   rw [bU (by omega)]at hx
   rcases List.mem_append.mp hx with hx|hx
   ·obtain⟨b,h1,h2,h3,q⟩:=g.mem j hi x hx
    exact⟨b,h1,by omega,h3,q⟩
   ·simp at hx
    exact⟨t,hx,by omega,hbad,hj⟩
  ·rw [bM e2]at hx
   obtain⟨b,h1,h2,h3,q⟩:=g.mem i hi x hx
   exact⟨b,h1,by omega,h3,q⟩
 ·rw [cJ]at hi
  by_cases e2:j=i
  ·subst e2;rw [bU (by omega)];exact g.src j hi
  ·rw [bM e2];exact g.src i hi
 ·rw [cJ]at hi
  have:=g.bl i hi
  by_cases e2:j=i
  ·subst e2;rw [bU (by omega)];simp;omega
  ·rw [bM e2];omega
include hp hs
theorem Xg {t:Nat} (ht:(t:Int)<p.ar) {out:List aI} {m:List (Int × Int)} (g:II p s t t out m):
  ∃out' m',bQ p s ⟨(uL p s p.aq.length).1⟩ (out,m,(t:Int))=some (.next (out',m',((t+1:Nat):Int)))/\II p s (t+1) (t+1) out' m':=by
 have h3:=hs.al;have hb:=hp.b
 have hd:decide ((t:Int)<p.ar)=true:=bx ht
 have hlen:=g.len
 unfold bQ
 simp only [bw]
 rw [hd,bt,au (by omega)]
 cases hbad:at' s.al t with
 |true=>
  refine⟨out,m,by rw [bt,wr (by omega)];rfl,g.ix,g.inj,fun b hb' hbb=> ?_,fun j hj x hx=> ?_,g.src,by omega,fun j hj=> ?_⟩
  ·have:b≠t:=fun e=>by rw [e,hbad]at hbb;cases hbb
   exact g.cov b (by omega) hbb
  ·obtain⟨b,h1,h2,h3,q⟩:=g.mem j hj x hx
   exact⟨b,h1,by omega,h3,q⟩
  ·have:=g.bl j hj;omega
 |false=>
  rw [bu,Hz hp,bs]
  have eh:(uL p s p.aq.length).2 (t:Int)=bA p s t:=rfl
  rw [eh]
  cases hq:bC cK (bA p s t) m with
  |some i=>
   obtain⟨i0,i1⟩:=g.ix _ _ hq
   obtain⟨j,rfl⟩: ∃j:Nat,i=(j:Int):=⟨i.toNat,by omega⟩
   have hbl:=g.bl j (by omega)
   refine⟨_,_, ?_,⟨(g.add hbad hq).ix,g.inj,(g.add hbad hq).cov,(g.add hbad hq).mem,(g.add hbad hq).src,by have:=(g.add hbad hq).len;omega,(g.add hbad hq).bl⟩⟩
   simp only [Option.isSome_some,cD,bu,Option.getD_some,bw]
   rw [au ⟨by omega,by simp;omega,by simp;omega⟩,wr (by omega)]
   rfl
  |none=>
   have g':=g.fresh hq
   have hj:bC cK (bA p s t) (iC cK (bA p s t) (out.length:Int) m)=some (out.length:Int):=jl _ _ _
   have g2:=g'.add hbad hj
   refine⟨_,_, ?_,g2⟩
   simp only [Option.isSome_none,cE,bt,hj,Option.getD_some,bw,nN]
   rw [au ⟨by simp;omega,by simp;omega⟩,au ⟨by simp;omega,by simp⟩,wr (by omega)]
   rfl
theorem aav: ∀(d t:Nat) (out:List aI) (m:List (Int × Int)),((t+d:Nat):Int)=p.ar->II p s t t out m->
  ∃out' m',ay (bQ p s ⟨(uL p s p.aq.length).1⟩) (d+1) (out,m,(t:Int))=some (.brk (out',m'))/\II p s p.ar.toNat p.ar.toNat out' m':=by
 intro d
 induction d with
 |zero=>
  intro t out m ht g
  refine⟨out,m, ?_,by
   have:p.ar.toNat=t:=by omega
   rw [this];exact g⟩
  rw [bK]
  have hd:decide ((t:Int)<p.ar)=false:=bz (by omega)
  unfold bQ
  simp only
  rw [hd];rfl
 |succ d ih=>
  intro t out m ht g
  obtain⟨out1,m1,h1,g1⟩:=Xg hp hs (by omega) g
  obtain⟨out2,m2,h2,g2⟩:=ih (t+1) out1 m1 (by omega) g1
  exact⟨out2,m2,by rw [bK,h1];exact h2,g2⟩
structure JJ (p:ah) (s:State) (m:List (Int × Int)) (o:List aI) (k:Nat) (out:List aI):Prop where
 len:out.length=o.length
 bus: ∀j,j<out.length->(at' out j).ar=(at' o j).ar
 src: ∀j,j<out.length->((at' out j).aa≠[]↔ ∃i,i<k/\iH p s i=true/\bC cK (bA p s (at' p.aa i).bus.toNat) m=some (j:Int))
 sl: ∀j,j<out.length->(at' out j).aa.length<=k
theorem Xm {o:List aI} {m:List (Int × Int)} (g:II p s p.ar.toNat p.ar.toNat o m) {k:Nat} (hk:k<p.aa.length) {out:List aI} (q:JJ p s m o k out):
  ∃out',bP p s ⟨(uL p s p.aq.length).1⟩ m (out,(k:Int))=some (.next (out',((k+1:Nat):Int)))/\JJ p s m o (k+1) out':=by
 have hl:=(hp.src k hk).bus;have h1:=hs.on;have h2:=hs.ae;have h3:=hs.al;have h4:=hp.sl
 have hd:decide ((k:Int)<(p.aa.length:Int))=true:=bx (by omega)
 have hcb:(bif (bif (at' s.on_ k)then(!(at' s.ae k))else false)then(!(at' s.al (((at' p.aa k).bus).toNat)))else false)=iH p s k:=by
  unfold iH
  cases at' s.on_ k<;>cases at' s.ae k<;>cases at' s.al (at' p.aa k).bus.toNat<;>rfl
 unfold bP
 simp only [bw]
 rw [hd,bt,au (by omega),au ⟨by omega,fun _=>by omega,fun _=>by omega⟩,hcb]
 cases hf:iH p s k with
 |false=>
  refine⟨out,by rw [bu,wr (by omega)];rfl,q.len,q.bus,fun j hj=> ?_,fun j hj=>by have:=q.sl j hj;omega⟩
  rw [q.src j hj]
  constructor
  ·rintro ⟨i,h1,h2,h3⟩;exact⟨i,by omega,h2,h3⟩
  ·rintro ⟨i,h1,h2,h3⟩
   have:i≠k:=fun e=>by rw [e,hf]at h2;cases h2
   exact⟨i,by omega,h2,h3⟩
 |true=>
  have hbad:at' s.al (at' p.aa k).bus.toNat=false:=by
   unfold iH at hf
   revert hf
   cases at' s.al (at' p.aa k).bus.toNat<;>simp
  obtain⟨j,hj,_⟩:=g.cov (at' p.aa k).bus.toNat (by omega) hbad
  have hjl:=(g.ix _ _ hj).2
  have hlen:=q.len
  have hsl:=q.sl j (by omega)
  have eh:(uL p s p.aq.length).2 (at' p.aa k).bus=bA p s (at' p.aa k).bus.toNat:=by unfold bA;rw [Int.toNat_of_nonneg (by omega)]
  rw [bt,Hz hp,bs,eh,hj]
  simp only [Option.getD_some,bw]
  rw [au ⟨by omega,by simp;omega,by simp;omega⟩,wr (by omega)]
  refine⟨_,rfl,by rw [cJ];exact q.len,fun i hi=> ?_,fun i hi=> ?_,fun i hi=> ?_⟩
  ·rw [cJ]at hi
   by_cases e:j=i
   ·subst e;rw [bU (by omega)];exact q.bus j hi
   ·rw [bM e];exact q.bus i hi
  ·rw [cJ]at hi
   by_cases e:j=i
   ·subst e;rw [bU (by omega)]
    simp only [ne_eq,List.append_eq_nil_iff,List.cons_ne_nil,and_false,not_false_eq_true,true_iff]
    exact⟨k,by omega,hf,hj⟩
   ·rw [bM e,q.src i hi]
    constructor
    ·rintro ⟨i',h1,h2,h3⟩;exact⟨i',by omega,h2,h3⟩
    ·rintro ⟨i',h1,h2,h3⟩
     have:i'≠k:=fun e'=>by
      rw [e',hj]at h3
      have:=Option.some.inj h3
      omega
     exact⟨i',by omega,h2,h3⟩
  ·rw [cJ]at hi
   have:=q.sl i hi
   by_cases e:j=i
   ·subst e;rw [bU (by omega)];simp;omega
   ·rw [bM e];omega
theorem abb {o:List aI} {m:List (Int × Int)} (g:II p s p.ar.toNat p.ar.toNat o m): ∀(d k:Nat) (out:List aI),k+d=p.aa.length->JJ p s m o k out->
  ∃out',ay (bP p s ⟨(uL p s p.aq.length).1⟩ m) (d+1) (out,(k:Int))=some (.brk out')/\JJ p s m o p.aa.length out':=by
 intro d
 induction d with
 |zero=>
  intro k out hk q
  refine⟨out, ?_,by
   have:p.aa.length=k:=by omega
   rw [this];exact q⟩
  rw [bK]
  have hd:decide ((k:Int)<(p.aa.length:Int))=false:=bz (by omega)
  unfold bP
  simp only
  rw [hd];rfl
 |succ d ih=>
  intro k out hk q
  obtain⟨out1,h1,q1⟩:=Xm hp hs g (by omega) q
  obtain⟨out2,h2,q2⟩:=ih (k+1) out1 (by omega) q1
  exact⟨out2,by rw [bK,h1];exact h2,q2⟩
theorem PO: ∃out o m,ig p s=some out/\II p s p.ar.toNat p.ar.toNat o m/\JJ p s m o p.aa.length out:=by
 have hb:=hp.b;have h4:=hp.sl
 obtain⟨o,m,h1,g⟩:=aav hp hs p.ar.toNat 0 [] [] (by omega) ⟨fun h i q=>by simp [bC]at q,fun h h' i q=>by simp [bC]at q,fun b hb=>absurd hb (cL _),fun j hj=>by simp at hj,fun j hj=>by simp at hj,cx _,fun j hj=>by simp at hj⟩
 obtain⟨out,h2,q⟩:=abb hp hs g p.aa.length 0 o (by omega) ⟨rfl,fun _ _=>rfl,fun j hj=>by rw [g.src j hj];simp,fun j hj=>by rw [g.src j hj];simp⟩
 refine⟨out,o,m, ?_,g,q⟩
 unfold ig
 simp only [lQ,bs]
 rw [CG hp hs,bs]
 have e1:ay (bQ p s ⟨(uL p s p.aq.length).1⟩) FUEL (([]:List aI),([]:List (Int × Int)),0)=some (.brk (o,m)):=jd h1 (by unfold FUEL;omega)
 have e2:ay (bP p s ⟨(uL p s p.aq.length).1⟩ m) FUEL (o,0)=some (.brk out):=jd h2 (by unfold FUEL;omega)
 rw [e1]
 simp only [bs]
 rw [e2]
 rfl
end
def p8 (v:Bool) (o:List Bool) (l:List Int):List Bool:=l.foldl (fun o x=>o.set x.toNat v) o
theorem xA (v:Bool): ∀(l:List Int) (o:List Bool),(p8 v o l).length=o.length
 |[],_=>rfl
 |x::l,o=>by
  show(p8 v (o.set x.toNat v) l).length=_
  rw [xA v l,cJ]
theorem Oa (v:Bool) (o:List Bool) (l:List Int) (x:Int):p8 v o (l++[x])=(p8 v o l).set x.toNat v:=by simp [p8]
theorem LY (v:Bool): ∀(l:List Int) (o:List Bool) (j:Nat),(∀x∈l,0<=x)->j<o.length->at' (p8 v o l) j=if(j:Int)∈l then v else at' o j
 |[],o,j,_,_=>by simp [p8]
 |x::l,o,j,h,hj=>by
  show at' (p8 v (o.set x.toNat v) l) j=_
  rw [LY v l _ j (fun y hy=>h y (cm _ hy)) (by rw [cJ];exact hj)]
  have hx:=h x ct
  by_cases e:(j:Int)∈l
  ·rw [ci e,ci (cm _ e)]
  ·rw [ce e]
   by_cases e2:x.toNat=j
   ·subst e2
    rw [bU hj,ci (by rw [Int.toNat_of_nonneg hx];exact ct)]
   ·rw [bM e2,ce]
    intro hm
    rcases List.mem_cons.mp hm with h1|h1
    ·omega
    ·exact e h1
def I8 (n:Nat) (l:List aI):List Bool:=l.foldl (fun o x=>p8 (decide (0<(x.aa.length:Int))) o x.ar) (List.replicate n false)
theorem KU (n:Nat) (l:List aI) (x:aI):I8 n (l++[x])=p8 (decide (0<(x.aa.length:Int))) (I8 n l) x.ar:=by simp [I8]
theorem Bo (n:Nat) (l:List aI):(I8 n l).length=n:=by
 unfold I8
 suffices∀(l:List aI) (o:List Bool),(l.foldl (fun o x=>p8 (decide (0<(x.aa.length:Int))) o x.ar) o).length=o.length by rw [this];simp
 intro l
 induction l with
 |nil=>intro o;rfl
 |cons x l ih=>intro o;rw [List.foldl_cons,ih,xA]
def sV (p:ah) (s:State) (b:Nat):Prop:=at' s.al b=false/\ ∃k,k<p.aa.length/\iH p s k=true/\ ∃l,Wk p s (at' p.aa k).bus.toNat l b
section
variable {p:ah} {s:State} (hp:VP p) (hs:VS p s)
include hp hs
theorem Zq {out:List aI} {j:Nat} (hj:j<out.length) (hx: ∀x∈(at' out j).ar,0<=x/\x<p.ar) (hl:(at' out j).ar.length<=1000) {o:List Bool} (ho:(o.length:Int)=p.ar):
  ay (mq out (j:Int)) FUEL (o,0)=some (.brk (p8 (decide (0<((at' out j).aa.length:Int))) o (at' out j).ar)):=by
 have key:ay (mq out (j:Int)) FUEL (p8 (decide (0<((at' out j).aa.length:Int))) o ((at' out j).ar.take 0),((0:Nat):Int))=some (.brk (p8 (decide (0<((at' out j).aa.length:Int))) o (at' out j).ar)):=by
  refine aU (fun i=>(p8 (decide (0<((at' out j).aa.length:Int))) o ((at' out j).ar.take i),(i:Int))) (at' out j).ar.length _ (fuel_lt (by omega)) (fun i hi=> ?_) ?_
  ·have hd:decide ((i:Int)<((at' out j).ar.length:Int))=true:=bx (by omega)
   have hm:=hx _ (at_mem hi)
   have hlen:=xA (decide (0<((at' out j).aa.length:Int))) ((at' out j).ar.take i) o
   unfold mq
   simp only [bw]
   rw [hd,bt,au (by omega),au (by omega),wr (by omega),eD hi,Oa]
   rfl
  ·have hd:decide (((at' out j).ar.length:Int)<((at' out j).ar.length:Int))=false:=bz (by omega)
   unfold mq
   simp only [bw]
   rw [hd,bu,dT]
 exact key
theorem HY: ∃L,dU p s=some (L,0)/\(L.length:Int)=p.ar/\ ∀b:Nat,(b:Int)<p.ar->(at' L b=true↔sV p s b):=by
 have hb:=hp.b;have h4:=hp.sl
 obtain⟨out,o,m,e,g,q⟩:=PO hp hs
 have hlen:=q.len
 have hgl:=g.len
 have hbus: ∀j,j<out.length-> ∀x∈(at' out j).ar,∃b:Nat,x=b/\(b:Int)<p.ar/\at' s.al b=false/\bC cK (bA p s b) m=some (j:Int):=by
  intro j hj x hx
  rw [q.bus j hj]at hx
  obtain⟨b,h1,h2,h3,h5⟩:=g.mem j (by omega) x hx
  exact⟨b,h1,by omega,h3,h5⟩
 have hx: ∀j,j<out.length-> ∀x∈(at' out j).ar,0<=x/\x<p.ar:=by
  intro j hj x hx
  obtain⟨b,h1,h2,_⟩:=hbus j hj x hx
  omega
 have hl: ∀j,j<out.length->(at' out j).ar.length<=1000:=by
  intro j hj;rw [q.bus j hj];have:=g.bl j (by omega);omega
 have hL:ay (mo out) FUEL (I8 p.ar.toNat (out.take 0),((0:Nat):Int))=some (.brk (I8 p.ar.toNat out)):=by
  refine aU (fun i=>(I8 p.ar.toNat (out.take i),(i:Int))) out.length _ (fuel_lt (by omega)) (fun i hi=> ?_) ?_
  ·have hd:decide ((i:Int)<(out.length:Int))=true:=bx (by omega)
   have hlo:=Bo p.ar.toNat (out.take i)
   unfold mo
   simp only
   rw [hd,bt,au (by omega),Zq hp hs hi (hx i hi) (hl i hi) (by omega)]
   simp only [bs]
   rw [wr (by omega),eD hi,KU]
   rfl
  ·have hd:decide ((out.length:Int)<(out.length:Int))=false:=bz (by omega)
   unfold mo
   simp only
   rw [hd,bu,dT]
 have hat: ∀n,n<=out.length-> ∀b:Nat,(b:Int)<p.ar->(at' (I8 p.ar.toNat (out.take n)) b=true↔ ∃j,j<n/\(b:Int)∈(at' out j).ar/\(at' out j).aa≠[]):=by
  intro n
  induction n with
  |zero=>
   intro _ b hb'
   rw [List.take_zero]
   show at' (List.replicate p.ar.toNat false) b=true↔_
   rw [jZ (by omega)]
   simp
  |succ n ih=>
   intro hn b hb'
   have hln:=Bo p.ar.toNat (out.take n)
   rw [eD (by omega),KU,LY _ _ _ _ (fun x h=>(hx n (by omega) x h).1) (by omega)]
   by_cases hm:(b:Int)∈(at' out n).ar
   ·rw [ci hm]
    have huniq: ∀j,j<out.length->(b:Int)∈(at' out j).ar->j=n:=by
     intro j hj hmj
     obtain⟨b1,e1,_,_,f1⟩:=hbus n (by omega) _ hm
     obtain⟨b2,e2,_,_,f2⟩:=hbus j hj _ hmj
     have:b1=b2:=by omega
     subst this
     rw [f1]at f2
     have:=Option.some.inj f2
     omega
    constructor
    ·intro hd
     refine⟨n,by omega,hm,fun hn=> ?_⟩
     rw [hn]at hd;simp at hd
    ·rintro ⟨j,hj,hmj,hsj⟩
     have:=huniq j (by omega) hmj
     subst this
     have:=List.length_pos_iff.mpr hsj
     exact bx (by omega)
   ·rw [ce hm,ih (by omega) b hb']
    constructor
    ·rintro ⟨j,hj,h⟩;exact⟨j,by omega,h⟩
    ·rintro ⟨j,hj,h⟩
     have:j≠n:=fun e=>by subst e;exact hm h.1
     exact⟨j,by omega,h⟩
 refine⟨I8 p.ar.toNat out, ?_,by rw [Bo];omega,fun b hb'=> ?_⟩
 ·unfold dU
  have h0:rD p s=0:=iO.mpr ⟨hp,hs⟩
  rw [pI p s hp.small,h0,bs]
  simp only [decide_true,cD,bu]
  rw [au ⟨by omega,by omega,by omega⟩,e,bs]
  have hL':ay (mo out) FUEL (List.replicate p.ar.toNat false,0)=some (.brk (I8 p.ar.toNat out)):=hL
  rw [hL'];rfl
 ·have:=hat out.length (cx _) b hb'
  rw [dT]at this
  rw [this]
  constructor
  ·rintro ⟨j,hj,hm,hsj⟩
   obtain⟨b1,e1,h1,hbad,f1⟩:=hbus j hj _ hm
   have:b1=b:=by omega
   subst this
   obtain⟨k,hk,hf,f2⟩:=(q.src j hj).mp hsj
   have hk2:=(hp.src k hk).bus
   have:=g.inj _ _ _ f1 f2
   obtain⟨l,w⟩:=(uQ hp (by omega) hb').mp this.symm
   exact⟨hbad,k,hk,hf,l,w⟩
  ·rintro ⟨hbad,k,hk,hf,l,w⟩
   have hk2:=(hp.src k hk).bus
   have he:=(uQ (s:=s) hp (u:=(at' p.aa k).bus.toNat) (by omega) hb').mpr ⟨l,w⟩
   obtain⟨j,hj,hm⟩:=g.cov b (by omega) hbad
   have hjl:=(g.ix _ _ hj).2
   refine⟨j,by omega,by rw [q.bus j (by omega)];exact hm, ?_⟩
   rw [q.src j (by omega)]
   exact⟨k,hk,hf,by rw [he];exact hj⟩
omit hp hs
end
def yB (p:ah) (s:State) (o:List Bool) (i:Nat):List Bool:=
 bif qI p s i && (at' o (at' p.aq i).a.toNat||at' o (at' p.aq i).b.toNat)then(o.set (at' p.aq i).a.toNat true).set (at' p.aq i).b.toNat true else o
def qR (p:ah) (s:State) (o:List Bool):Nat->List Bool
 |0=>o
 |n+1=>yB p s (qR p s o n) n
def Ka (p:ah) (s:State) (o:List Bool):Nat->List Bool
 |0=>o
 |n+1=>qR p s (Ka p s o n) p.aq.length
theorem at_set {o:List Bool} {a v:Nat} (hv:v<o.length):at' (o.set a true) v=(decide (v=a)||at' o v):=by
 by_cases e:v=a
 ·subst e;rw [bU hv];simp
 ·rw [bM (Ne.symm e)];simp [e]
theorem K5 (p:ah) (s:State) (o:List Bool) (i:Nat):(yB p s o i).length=o.length:=by
 unfold yB;cases(qI p s i && (at' o (at' p.aq i).a.toNat||at' o (at' p.aq i).b.toNat))<;>simp
theorem uP (p:ah) (s:State) (o:List Bool): ∀n,(qR p s o n).length=o.length
 |0=>rfl
 |n+1=>by rw [qR,K5,uP p s o n]
theorem wT (p:ah) (s:State) (o:List Bool): ∀n,(Ka p s o n).length=o.length
 |0=>rfl
 |n+1=>by rw [Ka,uP,wT p s o n]
theorem MC {o:List Bool} {a:Nat} (ha:a<o.length):(at' o a=true->o.set a true=o)/\(at' o a=false->D6 (o.set a true)=D6 o+1):=by
 refine⟨fun h=>uT (by simp) fun i hi=> ?_,fun h=> ?_⟩
 ·rw [at_set (by simpa using hi)]
  by_cases e:i=a
  ·subst e;simp [h]
  ·simp [e]
 ·have h2:=NJ (o.set a true) a (by simpa using ha) (by rw [at_set ha];simp)
  rw [List.set_set]at h2
  have:o.set a false=o:=uT (by simp) fun i hi=>by
   by_cases e:i=a
   ·subst e;rw [bU ha,h]
   ·rw [bM (Ne.symm e)]
  rw [this]at h2
  omega
section
variable {p:ah} {s:State} (hp:VP p) (hs:VS p s)
include hp hs
theorem Ra {o:List Bool} (ho:(o.length:Int)=p.ar) {i:Nat} (hi:i<p.aq.length):
  (yB p s o i=o/\(qI p s i=true->at' o (at' p.aq i).a.toNat=at' o (at' p.aq i).b.toNat))\/D6 o<D6 (yB p s o i):=by
 have hl:=hp.lnk i hi
 have ha:=hl.a;have hb:=hl.b;have hne:=hl.ab
 have ka:(at' p.aq i).a.toNat<o.length:=by omega
 have kb:(at' p.aq i).b.toNat<o.length:=by omega
 have kn:(at' p.aq i).b.toNat≠(at' p.aq i).a.toNat:=by omega
 unfold yB
 generalize (at' p.aq i).a.toNat=a at*
 generalize (at' p.aq i).b.toNat=b at*
 cases hc:qI p s i with
 |false=>left;exact⟨rfl,fun h=>by cases h⟩
 |true=>
  obtain⟨a1,a2⟩:=MC ka
  have hba:at' (o.set a true) b=at' o b:=bM (Ne.symm kn)
  obtain⟨b1,b2⟩:=MC (o:=o.set a true) (a:=b) (by simpa using kb)
  rw [hba]at b1 b2
  cases h1:at' o a with
  |true=>
   rw [a1 h1]at b1 b2 ⊢
   cases h2:at' o b with
   |true=>left;simp [b1 h2,h1,h2]
   |false=>right;have:=b2 h2;simp [h1];omega
  |false=>
   have a2:=a2 h1
   cases h2:at' o b with
   |true=>right;have:=b1 h2;simp [this];omega
   |false=>left;simp [h1,h2]
theorem Dr {o:List Bool} (ho:(o.length:Int)=p.ar): ∀n,n<=p.aq.length->
  (qR p s o n=o/\ ∀i,i<n->qI p s i=true->at' o (at' p.aq i).a.toNat=at' o (at' p.aq i).b.toNat)\/D6 o<D6 (qR p s o n)
 |0,_=> .inl ⟨rfl,fun i hi=>absurd hi (cL i)⟩
 |n+1,hn=>by
  have ih:=Dr ho n (by omega)
  have st:=Ra hp hs (o:=qR p s o n) (by rw [uP];exact ho) (i:=n) (by omega)
  rw [qR]
  rcases ih with⟨e,h⟩|h
  ·rw [e]at st ⊢
   rcases st with⟨e2,h2⟩|h2
   ·left
    refine⟨e2,fun i hi hc=> ?_⟩
    by_cases q:i=n
    ·subst q;exact h2 hc
    ·exact h i (by omega) hc
   ·right;exact h2
  ·right
   rcases st with⟨e2,_⟩|h2
   ·rw [e2];exact h
   ·omega
theorem RV {o:List Bool} (ho:(o.length:Int)=p.ar) (h1:1<=D6 o): ∀n,qR p s (Ka p s o n) p.aq.length=Ka p s o n\/n+1<=D6 (Ka p s o n)
 |0=> .inr h1
 |n+1=>by
  rcases RV ho h1 n with e|e
  ·left;rw [Ka,e,e]
  ·rcases Dr hp hs (o:=Ka p s o n) (by rw [wT];exact ho) p.aq.length (cx _)with⟨q,_⟩|q
   ·left;rw [Ka,q,q]
   ·right;rw [Ka];omega
theorem U3 {b:Nat} {o:List Bool} (ho:(o.length:Int)=p.ar) (h: ∀v,v<o.length->at' o v=true-> ∃l,Wk p s b l v) {i:Nat} (hi:i<p.aq.length): ∀v,v<(yB p s o i).length->at' (yB p s o i) v=true-> ∃l,Wk p s b l v:=by
 intro v hv hm
 rw [K5]at hv
 have hl:=hp.lnk i hi
 have ha:=hl.a;have hb:=hl.b
 unfold yB at hm
 cases hc:qI p s i with
 |false=>rw [hc]at hm;exact h v hv hm
 |true=>
  cases hq:(at' o (at' p.aq i).a.toNat||at' o (at' p.aq i).b.toNat)with
  |false=>rw [hc,hq]at hm;exact h v hv hm
  |true=>
   rw [hc,hq]at hm
   simp only [Bool.and_self,bt]at hm
   rw [at_set (by simpa using hv),at_set hv]at hm
   simp only [cP,dc]at hm hq
   rcases hm with e|e|e
   ·rcases hq with q|q
    ·obtain⟨l,w⟩:=h _ (by omega) q
     exact⟨_,w.snoc hi hc (.inl ⟨rfl,e.symm⟩)⟩
    ·rw [e];exact h _ (by omega) q
   ·rcases hq with q|q
    ·rw [e];exact h _ (by omega) q
    ·obtain⟨l,w⟩:=h _ (by omega) q
     exact⟨_,w.snoc hi hc (.inr ⟨rfl,e.symm⟩)⟩
   ·exact h v hv e
theorem Nu {b:Nat} {o:List Bool} (ho:(o.length:Int)=p.ar) (h: ∀v,v<o.length->at' o v=true-> ∃l,Wk p s b l v): ∀n,n<=p.aq.length-> ∀v,v<(qR p s o n).length->at' (qR p s o n) v=true-> ∃l,Wk p s b l v
 |0,_=>h
 |n+1,hn=>U3 hp hs (by rw [uP];exact ho) (Nu ho h n (by omega)) (by omega)
theorem Wo {b:Nat} {o:List Bool} (ho:(o.length:Int)=p.ar) (h: ∀v,v<o.length->at' o v=true-> ∃l,Wk p s b l v): ∀n,∀v,v<(Ka p s o n).length->at' (Ka p s o n) v=true-> ∃l,Wk p s b l v
 |0=>h
 |n+1=>Nu hp hs (by rw [wT];exact ho) (Wo ho h n) _ (cx _)
theorem QB {o:List Bool} {v i:Nat} (hv:v<o.length) (h:at' o v=true):at' (yB p s o i) v=true:=by
 unfold yB
 cases(qI p s i && (at' o (at' p.aq i).a.toNat||at' o (at' p.aq i).b.toNat))with
 |false=>exact h
 |true=>rw [bt,at_set (by simpa using hv),at_set hv,h];simp
theorem JV {o:List Bool} {v:Nat} (hv:v<o.length) (h:at' o v=true): ∀n,at' (qR p s o n) v=true
 |0=>h
 |n+1=>QB hp hs (by rw [uP];exact hv) (JV hv h n)
theorem Oh {o:List Bool} {v:Nat} (hv:v<o.length) (h:at' o v=true): ∀n,at' (Ka p s o n) v=true
 |0=>h
 |n+1=>JV hp hs (by rw [wT];exact hv) (Oh hv h n) _
theorem GI {b:Nat} (hb:(b:Int)<p.ar): ∃R,iQ p s (b:Int)=some R/\(R.length:Int)=p.ar/\ ∀v,v<R.length->(at' R v=true↔ ∃l,Wk p s b l v):=by
 have hbb:=hp.b;have hll:=hp.ll
 obtain⟨n,hn⟩: ∃n:Nat,p.ar=(n:Int):=⟨p.ar.toNat,by omega⟩
 have hO:((List.replicate n false).set b true).length=n:=by simp
 have h1:at' ((List.replicate n false).set b true) b=true:=bU (by simp;omega)
 have hw0: ∀v,v<((List.replicate n false).set b true).length->at' ((List.replicate n false).set b true) v=true-> ∃l,Wk p s b l v:=by
  intro v hv h
  rw [hO]at hv
  rw [at_set (by simpa using hv),jZ hv]at h
  simp at h
  subst h
  exact⟨[], .nil⟩
 have hc1:1<=D6 ((List.replicate n false).set b true):=by
  have:=(MC (o:=List.replicate n false) (a:=b) (by simp;omega)).2 (jZ (by omega))
  omega
 generalize ho:(List.replicate n false).set b true=o at*
 refine⟨Ka p s o n, ?_,by rw [wT,hO,hn],fun v hv=> ⟨Wo hp hs (by rw [hO,hn]) hw0 n v hv,fun⟨l,w⟩=> ?_⟩⟩
 ·unfold iQ
  rw [hn,au (by omega),bw,au (by simp;omega),bw,ho]
  have L1: ∀q:List Bool,q.length=n->ay (kP p s (b:Int)) FUEL (q,0)=some (.brk (qR p s q p.aq.length)):=by
   intro q hq
   refine aU (body:=kP p s (b:Int)) (fun t=>(qR p s q t,(t:Int))) p.aq.length _ (fuel_lt (by omega)) (fun t ht=> ?_) ?_
   ·have hl:=hp.lnk t ht
    have ha:=hl.a;have hb2:=hl.b
    have hlq:=uP p s q t
    unfold kP
    have d1:decide ((t:Int)<(p.aq.length:Int))=true:=bx (by omega)
    simp only [d1,bt]
    rw [au (by omega),Jl hp hs ht,bs,bw,au ⟨fun _=>by omega,fun _=>by omega⟩,au (by omega),au (by rw [cJ];omega),wr (by omega),AX,R8]
    rw [show qR p s q (t+1)=yB p s (qR p s q t) t from rfl]
    unfold yB
    cases(qI p s t && (at' (qR p s q t) (at' p.aq t).a.toNat||at' (qR p s q t) (at' p.aq t).b.toNat))<;>rfl
   ·unfold kP
    have d1:decide ((p.aq.length:Int)<(p.aq.length:Int))=false:=bz (by omega)
    simp only [d1,bu]
  have L0:ay (lm p s (b:Int)) FUEL (o,0)=some (.brk (Ka p s o n)):=by
   refine aU (body:=lm p s (b:Int)) (fun t=>(Ka p s o t,(t:Int))) n _ (fuel_lt (by omega)) (fun t ht=> ?_) ?_
   ·unfold lm
    have d1:decide ((t:Int)<p.ar)=true:=bx (by omega)
    simp only [d1,bt]
    rw [L1 _ (by rw [wT,hO]),bs,wr (by omega)]
    rfl
   ·unfold lm
    have d1:decide ((n:Int)<p.ar)=false:=bz (by omega)
    simp only [d1,bu]
  rw [L0];rfl
 ·have hle:D6 (Ka p s o n)<=n:=by have:=XU (Ka p s o n);rw [wT,hO]at this;exact this
  have hfix:qR p s (Ka p s o n) p.aq.length=Ka p s o n:=(RV hp hs (by rw [hO,hn]) hc1 n).resolve_right (by omega)
  have hcl:=(Dr hp hs (o:=Ka p s o n) (by rw [wT,hO,hn]) p.aq.length (cx _)).resolve_right (by rw [hfix];omega)
  have hbm:at' (Ka p s o n) b=true:=Oh hp hs (by omega) h1 n
  clear hv
  induction w with
  |nil=>exact hbm
  |snoc w' hi hc he ih=>
   have ih:=ih ⟨_,w'⟩
   have:=hcl.2 _ hi hc
   rcases he with⟨e1,e2⟩|⟨e1,e2⟩
   ·rw [<-e2,<-this,e1];exact ih
   ·rw [<-e2,this,e1];exact ih
end
theorem Oq {α:Type} (n:Nat) (f:Nat->α):tab (n+1) f=tab n f++[f n]:=by simp [tab,List.range_succ]
section
variable {p:ah} {s:State} (hp:VP p) (hs:VS p s)
include hp hs
theorem Qj (n:Nat) (hn:p.ar=(n:Int)) (r:List Bool) (hr:r.length=n) (f:Nat->Bool):ay (jF p r) FUEL (tab n f,0)=some (.brk (tab n fun v=>f v||at' r v)):=by
 have hb:=hp.b
 have key:ay (jF p r) FUEL (tab n (fun v=>if v<0 then f v||at' r v else f v),((0:Nat):Int))=some (.brk (tab n fun v=>f v||at' r v)):=by
  refine aU (body:=jF p r) (fun t=>(tab n (fun v=>if v<t then f v||at' r v else f v),(t:Int))) n _ (fuel_lt (by omega)) (fun t ht=> ?_) ?_
  ·unfold jF
   have d1:decide ((t:Int)<p.ar)=true:=bx (by omega)
   simp only [d1,bt,bw]
   rw [au ⟨by rw [aY];omega,fun _=>by omega⟩,wr (by omega),rH ht,ce (Nat.lt_irrefl _),YM]
   congr 2
   rw [Prod.mk.injEq]
   refine⟨xO fun v hv=> ?_,by omega⟩
   by_cases e:v=t
   ·subst e;rw [ci rfl,ci (by omega),AX]
   ·rw [ce e]
    by_cases q:v<t
    ·rw [ci q,ci (by omega)]
    ·rw [ce q,ce (by omega)]
  ·unfold jF
   have d1:decide ((n:Int)<p.ar)=false:=bz (by omega)
   simp only [d1,bu]
   rw [xO (g:=fun v=>f v||at' r v) fun v hv=>ci hv]
 have e0:(tab n fun v=>if v<0 then f v||at' r v else f v)=tab n f:=xO fun v _=>ce (cL v)
 rw [e0]at key
 exact key
theorem PS: ∃L,fB p s=some (L,0)/\(L.length:Int)=p.ar/\ ∀b:Nat,(b:Int)<p.ar->(at' L b=true↔sV p s b):=by
 have hb:=hp.b;have hsl:=hp.sl
 obtain⟨n,hn⟩: ∃n:Nat,p.ar=(n:Int):=⟨p.ar.toNat,by omega⟩
 have hex: ∀k:Nat,∃R:List Bool,k<p.aa.length->iQ p s (at' p.aa k).bus=some R/\R.length=n/\ ∀v,v<n->(at' R v=true↔ ∃l,Wk p s (at' p.aa k).bus.toNat l v):=by
  intro k
  by_cases h:k<p.aa.length
  ·have hk:=(hp.src k h).bus
   obtain⟨R,h1,h2,h3⟩:=GI hp hs (b:=(at' p.aa k).bus.toNat) (by omega)
   rw [show(((at' p.aa k).bus.toNat:Nat):Int)=(at' p.aa k).bus by omega]at h1
   exact⟨R,fun _=> ⟨h1,by omega,fun v hv=>h3 v (by omega)⟩⟩
  ·exact⟨[],fun q=>absurd q h⟩
 let R:Nat->List Bool:=fun k=>(hex k).choose
 have hR: ∀k,k<p.aa.length->iQ p s (at' p.aa k).bus=some (R k)/\(R k).length=n/\ ∀v,v<n->(at' (R k) v=true↔ ∃l,Wk p s (at' p.aa k).bus.toNat l v):=fun k=>(hex k).choose_spec
 let O:Nat->List Bool:=fun k=>tab n fun v=>(List.range k).any fun j=>iH p s j && at' (R j) v
 refine⟨O p.aa.length, ?_,by rw [aY];omega,fun v hv=> ?_⟩
 ·unfold fB
  rw [kK p s hp.small,iO.mpr ⟨hp,hs⟩,bs]
  simp only [decide_true,cD,bu]
  rw [au (by omega)]
  have key:ay (jH p s) FUEL (O 0,((0:Nat):Int))=some (.brk (O p.aa.length)):=by
   refine aU (body:=jH p s) (fun k=>(O k,(k:Int))) p.aa.length _ (fuel_lt (by omega)) (fun k hk=> ?_) ?_
   ·unfold jH
    have d1:decide ((k:Int)<(p.aa.length:Int))=true:=bx (by omega)
    simp only [d1,bt,bw]
    rw [AZ hp hs hk,bs,wr (by omega)]
    have hOk:O (k+1)=tab n fun v=>((List.range k).any fun j=>iH p s j && at' (R j) v)||(iH p s k && at' (R k) v):=xO fun v _=>by rw [List.range_succ,ep,List.any_cons,List.any_nil,cR]
    cases hf:iH p s k with
    |false=>
     rw [hf]at hOk
     simp only [Bool.false_and,cR]at hOk
     rw [hOk];rfl
    |true=>
     rw [hf]at hOk
     simp only [cQ]at hOk
     obtain⟨h1,h2,_⟩:=hR k hk
     simp only [cD,bu]
     rw [h1,bs,au (by omega),Qj hp hs n hn (R k) h2,bs,hOk]
     rfl
   ·unfold jH
    have d1:decide ((p.aa.length:Int)<(p.aa.length:Int))=false:=bz (by omega)
    simp only [d1,bu]
  have e0:O 0=List.replicate p.ar.toNat false:=by rw [YB,show p.ar.toNat=n by omega];rfl
  rw [e0]at key
  have key':ay (jH p s) FUEL (List.replicate p.ar.toNat false,0)=_:=key
  rw [key'];rfl
 ·have hv':v<n:=by omega
  rw [show at' (O p.aa.length) v=_ from rH hv',c8]
  constructor
  ·rintro ⟨k,hk,h⟩
   have hk:=List.mem_range.mp hk
   rw [cd]at h
   obtain⟨l,w⟩:=((hR k hk).2.2 v hv').mp h.2
   refine⟨?_,k,hk,h.1,l,w⟩
   have hf:=h.1
   cases w with
   |nil=>
    unfold iH at hf
    revert hf
    cases at' s.al (at' p.aa k).bus.toNat<;>simp
   |snoc w' hi hc he=>
    unfold qI at hc
    rcases he with⟨e1,e2⟩|⟨e1,e2⟩
    ·rw [e2]at hc;revert hc;cases at' s.al v<;>simp
    ·rw [e2]at hc;revert hc;cases at' s.al v<;>simp
  ·rintro ⟨_,k,hk,hf,l,w⟩
   exact⟨k,List.mem_range.mpr hk,by rw [hf,((hR k hk).2.2 v hv').mpr ⟨l,w⟩];rfl⟩
theorem SS: ∃L,dU p s=some (L,0)/\fB p s=some (L,0)/\(L.length:Int)=p.ar:=by
 obtain⟨L,h1,h2,h3⟩:=HY hp hs
 obtain⟨L',g1,g2,g3⟩:=PS hp hs
 have:L'=L:=uT (by omega) fun i hi=>by
  rw [Bool.eq_iff_iff,g3 i (by omega),h3 i (by omega)]
 subst this
 exact⟨L',h1,g1,h2⟩
def JK (p:ah) (L:List Bool) (k:Nat):aS:=⟨at' L (at' p.a_ k).bj.e0.toNat,bif decide (0<=(at' p.a_ k).bj.e1)then at' L (at' p.a_ k).bj.e1.toNat else false⟩
theorem Vt {L:List Bool} (h1:dU p s=some (L,0)) (h3:(L.length:Int)=p.ar):wL p s=some (tab p.a_.length (JK p L),0):=by
 have hrl:=hp.rl
 ·unfold wL
  rw [h1,bs]
  simp only [decide_true,cD,bu]
  have key:ay (kS p (L,0)) FUEL (tab 0 (JK p L),((0:Nat):Int))=some (.brk (tab p.a_.length (JK p L))):=by
   refine aU (body:=kS p (L,0)) (fun t=>(tab t (JK p L),(t:Int))) p.a_.length _ (fuel_lt (by omega)) (fun t ht=> ?_) ?_
   ·have hr:=hp.rck t ht
    have r0:=hr.e0;have r1:=hr.e1
    unfold kS
    have d1:decide ((t:Int)<(p.a_.length:Int))=true:=bx (by omega)
    have d2:decide (0<=(at' p.a_ t).bj.e0)=true:=bx (by omega)
    simp only [d1,bt,bw,d2]
    have q1: ∀l,gB [(decide (0<=(at' p.a_ t).bj.e1),true)]=l->l=true->0<=(at' p.a_ t).bj.e1:=fun l e h=>by
     subst e;simp [gB]at h;exact h
    rw [au (by omega),au (fun _=>by omega),au (fun h=>by have:=q1 _ rfl h;omega),au (by rw [aY,cw];omega),wr (by omega),Oq]
    rfl
   ·unfold kS
    have d1:decide ((p.a_.length:Int)<(p.a_.length:Int))=false:=bz (by omega)
    simp only [d1,bu]
  have key':ay (kS p (L,0)) FUEL ([],0)=_:=key
  rw [key'];rfl
end
def rts (p:ah) (s:State):Nat->List Int
 |0=>[]
 |t+1=>if at' s.al t=true\/bA p s t∈rts p s t then rts p s t else rts p s t++[bA p s t]
def Gi (p:ah) (s:State) (t:Nat) (h:Int):List Int:=List.map (fun b:Nat=>(Int.ofNat b)) ((List.range t).filter fun b=> !at' s.al b && decide (bA p s b=h))
def sG (p:ah) (s:State) (k:Nat) (h:Int):List Int:=List.map (fun i:Nat=>(Int.ofNat i)) ((List.range k).filter fun i=>iH p s i && decide (bA p s (at' p.aa i).bus.toNat=h))
def dW (p:ah) (s:State) (t k:Nat):List aI:=(rts p s t).map fun h=> ⟨Gi p s t h,sG p s k h⟩
def Nh (r:List Int):List (Int × Int):=tab r.length fun j=>(at' r j,(j:Int))
theorem BL {p:ah} {s:State} {h:Int}: ∀{t:Nat},h∈rts p s t↔ ∃b,b<t/\at' s.al b=false/\bA p s b=h
 |0=>by simp [rts]
 |t+1=>by
  have e:rts p s (t+1)=if at' s.al t=true\/bA p s t∈rts p s t then rts p s t else rts p s t++[bA p s t]:=rfl
  rw [e]
  by_cases c:at' s.al t=true\/bA p s t∈rts p s t
  ·rw [ci c,BL]
   constructor
   ·rintro ⟨b,h1,h2,h3⟩;exact⟨b,by omega,h2,h3⟩
   ·rintro ⟨b,h1,h2,h3⟩
    by_cases e:b=t
    ·subst e
     rcases c with c|c
     ·rw [h2]at c;cases c
     ·rw [h3]at c;exact BL.1 c
    ·exact⟨b,by omega,h2,h3⟩
  ·rw [ce c,cz,cF,BL]
   rw [not_or,Bool.not_eq_true]at c
   constructor
   ·rintro (⟨b,h1,h2,h3⟩|rfl)
    ·exact⟨b,by omega,h2,h3⟩
    ·exact⟨t,by omega,c.1,rfl⟩
   ·rintro ⟨b,h1,h2,h3⟩
    by_cases e:b=t
    ·subst e;exact .inr h3.symm
    ·exact .inl ⟨b,by omega,h2,h3⟩
theorem rM {p:ah} {s:State}: ∀t,(rts p s t).Nodup
 |0=>by simp [rts]
 |t+1=>by
  have e:rts p s (t+1)=if at' s.al t=true\/bA p s t∈rts p s t then rts p s t else rts p s t++[bA p s t]:=rfl
  rw [e]
  by_cases c:at' s.al t=true\/bA p s t∈rts p s t
  ·rw [ci c];exact rM t
  ·rw [ce c,List.nodup_append]
   refine⟨rM t,by simp,fun a ha b hb=> ?_⟩
   rw [cF]at hb
   subst hb
   exact fun e=>c (.inr (e ▸ ha))
theorem Fs {p:ah} {s:State}: ∀t,(rts p s t).length<=t
 |0=>by simp [rts]
 |t+1=>by
  have e:rts p s (t+1)=if at' s.al t=true\/bA p s t∈rts p s t then rts p s t else rts p s t++[bA p s t]:=rfl
  have:=Fs (p:=p) (s:=s) t
  rw [e];split
  ·omega
  ·rw [b_,cw];omega
theorem EW {α:Type} (n:Nat) (f:Nat->α):tab (n+1) f=tab n f++[f n]:=by simp [tab,List.range_succ]
theorem xM {α:Type} {h:Int}: ∀{l m:List (Int × α)},bC cK h l=none->bC cK h (l++m)=bC cK h m
 |[],_,_=>rfl
 |(k,v)::l,m,hn=>by
  unfold bC at hn
  rw [du]
  conv=>lhs;unfold bC
  cases e:cK h k with
  |true=>rw [e]at hn;simp at hn
  |false=>rw [e]at hn;simp only [bu]at hn ⊢;exact xM hn
theorem C9 {α:Type} {h:Int} {v:α}: ∀{l m:List (Int × α)},bC cK h l=some v->bC cK h (l++m)=some v
 |[],_,hn=>by simp [bC]at hn
 |(k,w)::l,m,hn=>by
  unfold bC at hn
  rw [du]
  conv=>lhs;unfold bC
  cases e:cK h k with
  |true=>rw [e]at hn;simpa using hn
  |false=>rw [e]at hn;simp only [bu]at hn ⊢;exact C9 hn
theorem JL (r:List Int) (h:Int):Nh (r++[h])=Nh r++[(h,(r.length:Int))]:=by
 unfold Nh
 rw [b_,cw,EW]
 have e1:(tab r.length fun j=>(at' (r++[h]) j,(j:Int)))=tab r.length fun j=>(at' r j,(j:Int)):=xO fun j hj=>by rw [lD hj]
 rw [e1,nN]
theorem rU: ∀{n:Nat} {r:List Int} {h:Int},r.length=n->h ∉ r->bC cK h (Nh r)=none
 |0,r,h,hl,_=>by
  have:r=[]:=List.eq_nil_of_length_eq_zero hl
  subst this;rfl
 |n+1,r,h,hl,hn=>by
  rcases List.eq_nil_or_concat r with rfl|⟨q,x,rfl⟩
  ·simp at hl
  ·rw [List.concat_eq_append]at*
   rw [cz,cF,not_or]at hn
   rw [JL,xM (rU (by simpa using hl) hn.1)]
   simp [bC,F9 hn.2]
theorem JI: ∀{n:Nat} {r:List Int} {j:Nat},r.length=n->r.Nodup->j<r.length->bC cK (at' r j) (Nh r)=some (j:Int)
 |0,r,j,hl,_,hj=>by omega
 |n+1,r,j,hl,hn,hj=>by
  rcases List.eq_nil_or_concat r with rfl|⟨q,x,rfl⟩
  ·simp at hl
  ·rw [List.concat_eq_append]at*
   rw [List.nodup_append]at hn
   rw [b_,cw]at hj hl
   rw [JL]
   by_cases e:j=q.length
   ·subst e
    rw [nN,xM (rU rfl fun hm=>hn.2.2 _ hm _ (List.mem_singleton_self x) rfl)]
    simp [bC,IE]
   ·rw [lD (by omega),C9 (JI (show q.length=n by omega) hn.1 (by omega))]
theorem WM {r:List Int} {h:Int} (hn:h ∉ r):iC cK h (r.length:Int) (Nh r)=Nh (r++[h]):=by
 rw [JL]
 have gen: ∀{l:List (Int × Int)} {v:Int},bC cK h l=none->iC cK h v l=l++[(h,v)]:=by
  intro l v
  induction l with
  |nil=>intro _;rfl
  |cons a l ih=>
   obtain⟨k',v'⟩:=a
   intro hg
   unfold bC at hg
   unfold iC
   cases e:cK h k' with
   |true=>rw [e]at hg;simp at hg
   |false=>rw [e]at hg;simp only [bu]at hg ⊢;rw [ih hg];rfl
 exact gen (rU rfl hn)
theorem FL {p:ah} {s:State} (t:Nat) (h:Int):Gi p s (t+1) h=Gi p s t h++(if(!at' s.al t && decide (bA p s t=h))=true then [(t:Int)]else []):=by
 unfold Gi
 rw [List.range_succ,ej,List.map_append]
 congr 1
 by_cases c:(!at' s.al t && decide (bA p s t=h))=true
 ·simp only [List.filter_cons,List.filter_nil,c,if_true];rfl
 ·simp only [List.filter_cons,List.filter_nil,c,if_false];rfl
theorem La {p:ah} {s:State} (k:Nat) (h:Int):sG p s (k+1) h=sG p s k h++(if(iH p s k && decide (bA p s (at' p.aa k).bus.toNat=h))=true then [(k:Int)]else []):=by
 unfold sG
 rw [List.range_succ,ej,List.map_append]
 congr 1
 by_cases c:(iH p s k && decide (bA p s (at' p.aa k).bus.toNat=h))=true
 ·simp only [List.filter_cons,List.filter_nil,c,if_true];rfl
 ·simp only [List.filter_cons,List.filter_nil,c,if_false];rfl
theorem Vh {p:ah} {s:State} (t:Nat) (h:Int):(Gi p s t h).length<=t:=by
 unfold Gi;rw [de];exact dt (List.length_filter_le _ _) (by simp)
theorem I9 {p:ah} {s:State} (t:Nat) (h:Int):(sG p s t h).length<=t:=by
 unfold sG;rw [de];exact dt (List.length_filter_le _ _) (by simp)
theorem vS {α β:Type} [Inhabited α] [Inhabited β] {f:α->β} {l:List α} {j:Nat} (h:j<l.length):at' (l.map f) j=f (at' l j):=by
 rw [fG (by rw [de];exact h),fG h,List.getElem_map]
section
variable {p:ah} {s:State} (hp:VP p) (hs:VS p s)
include hp hs
theorem UC {t:Nat} (ht:(t:Int)<p.ar):bQ p s ⟨(uL p s p.aq.length).1⟩ (dW p s t 0,Nh (rts p s t),(t:Int))=some (.next (dW p s (t+1) 0,Nh (rts p s (t+1)),((t+1:Nat):Int))):=by
 have h3:=hs.al;have hb:=hp.b
 have hrl:=Fs (p:=p) (s:=s) t
 have er:rts p s (t+1)=if at' s.al t=true\/bA p s t∈rts p s t then rts p s t else rts p s t++[bA p s t]:=rfl
 have ss0: ∀h,sG p s 0 h=[]:=fun h=>rfl
 have hil:(dW p s t 0).length=(rts p s t).length:=by unfold dW;rw [de]
 unfold bQ
 dsimp only
 rw [bw,bx ht,bt,au (by omega),wr (by omega)]
 cases hbad:at' s.al t with
 |true=>
  rw [bt,er,ci (.inl hbad)]
  have:dW p s (t+1) 0=dW p s t 0:=by
   unfold dW
   rw [er,ci (.inl hbad)]
   refine List.map_congr_left fun h _=> ?_
   rw [FL,hbad,ce (by simp),cX]
  rw [this];rfl
 |false=>
  rw [bu,Hz hp,bs]
  have eh:(uL p s p.aq.length).2 (t:Int)=bA p s t:=rfl
  rw [eh]
  by_cases hm:bA p s t∈rts p s t
  ·obtain⟨j,hj,e⟩:=iU hm
   have hg:=JI rfl (rM t) hj
   rw [e]at hg
   rw [hg,er,ci (.inr hm)]
   have hbl:=Vh (p:=p) (s:=s) t (bA p s t)
   have hat:at' (dW p s t 0) j=⟨Gi p s t (bA p s t),[]⟩:=by unfold dW;rw [vS hj,e,ss0]
   rw [Option.isSome_some,cD,bu,Option.getD_some,bw,hat,au ⟨by omega,by simp;omega,by simp;omega⟩]
   refine congrArg (fun l=>some (aH.next (l,_,_))) ?_
   refine uT (by rw [cJ];unfold dW;rw [de,de,er,ci (.inr hm)]) fun i hi=> ?_
   rw [cJ,hil]at hi
   have h2:at' (dW p s (t+1) 0) i=⟨Gi p s (t+1) (at' (rts p s t) i),[]⟩:=by
    have h3:rts p s (t+1)=rts p s t:=by rw [er,ci (.inr hm)]
    unfold dW;rw [h3,vS hi,ss0]
   rw [h2,FL,hbad]
   by_cases e2:j=i
   ·subst e2
    rw [bU (by omega),e]
    simp
   ·rw [bM e2]
    have:bA p s t≠at' (rts p s t) i:=fun q=>by
     have hn:=rM (p:=p) (s:=s) t
     rw [fG hi,<-e,fG hj]at q
     exact e2 ((List.getElem_inj hn).1 q)
    rw [bz this]
    unfold dW;rw [vS hi,ss0];simp
  ·have hg:=rU (r:=rts p s t) rfl hm
   have er2:rts p s (t+1)=rts p s t++[bA p s t]:=by rw [er,ce (fun q=>q.elim (fun q=>by rw [hbad]at q;cases q) hm)]
   have hg2:bC cK (bA p s t) (iC cK (bA p s t) ((dW p s t 0).length:Int) (Nh (rts p s t)))=some ((dW p s t 0).length:Int):=jl _ _ _
   have hms:iC cK (bA p s t) ((dW p s t 0).length:Int) (Nh (rts p s t))=Nh (rts p s (t+1)):=by rw [hil,er2];exact WM hm
   rw [hg]
   simp only [Option.isSome_none,cE,bt,hg2,Option.getD_some,bw,nN]
   rw [au ⟨by simp;omega,by simp;omega⟩,au ⟨by simp;omega,by simp⟩,hms]
   refine congrArg (fun l=>some (aH.next (l,_,_))) ?_
   have hbs:Gi p s t (bA p s t)=[]:=by
    unfold Gi
    rw [List.map_eq_nil_iff,List.filter_eq_nil_iff]
    intro b hb2 hc
    simp only [cd,da,dc]at hc
    exact hm (BL.2 ⟨b,c7.1 hb2,hc.1,hc.2⟩)
   refine uT (by rw [cJ,b_,cw,hil];unfold dW;rw [de,er2,b_,cw]) fun i hi=> ?_
   rw [cJ,b_,cw,hil]at hi
   have h2:at' (dW p s (t+1) 0) i=⟨Gi p s (t+1) (at' (rts p s (t+1)) i),[]⟩:=by
    unfold dW;rw [vS (by rw [er2,b_,cw];exact hi),ss0]
   rw [h2,FL,hbad,er2]
   by_cases e2:i=(rts p s t).length
   ·subst e2
    rw [hil,bU (by rw [b_,cw,hil];omega),nN,hbs]
    simp
   ·rw [hil,bM (Ne.symm e2),lD (by omega),lD (by omega)]
    have:bA p s t≠at' (rts p s t) i:=fun q=>hm (q ▸ at_mem (by omega))
    rw [bz this]
    unfold dW;rw [vS (by omega),ss0];simp
theorem SF {k:Nat} (hk:k<p.aa.length):bP p s ⟨(uL p s p.aq.length).1⟩ (Nh (rts p s p.ar.toNat)) (dW p s p.ar.toNat k,(k:Int))=some (.next (dW p s p.ar.toNat (k+1),((k+1:Nat):Int))):=by
 have hl:=(hp.src k hk).bus;have h1:=hs.on;have h2:=hs.ae;have h3:=hs.al;have h4:=hp.sl;have hb:=hp.b
 have hrl:=Fs (p:=p) (s:=s) p.ar.toNat
 have hcb:(bif (bif (at' s.on_ k)then(!(at' s.ae k))else false)then(!(at' s.al (((at' p.aa k).bus).toNat)))else false)=iH p s k:=by
  unfold iH
  cases at' s.on_ k<;>cases at' s.ae k<;>cases at' s.al (at' p.aa k).bus.toNat<;>rfl
 unfold bP
 dsimp only
 rw [bw,bx (show(k:Int)<(p.aa.length:Int) by omega),bt,au (by omega),au ⟨by omega,fun _=>by omega,fun _=>by omega⟩,hcb,wr (by omega)]
 cases hf:iH p s k with
 |false=>
  have:dW p s p.ar.toNat (k+1)=dW p s p.ar.toNat k:=by
   unfold dW
   refine List.map_congr_left fun h _=> ?_
   rw [La,hf,ce (by simp),cX]
  rw [this];rfl
 |true=>
  have hbad:at' s.al (at' p.aa k).bus.toNat=false:=by
   unfold iH at hf
   revert hf
   cases at' s.al (at' p.aa k).bus.toNat<;>simp
  have hm:bA p s (at' p.aa k).bus.toNat∈rts p s p.ar.toNat:=BL.2 ⟨_,by omega,hbad,rfl⟩
  obtain⟨j,hj,e⟩:=iU hm
  have hg:=JI rfl (rM p.ar.toNat) hj
  rw [e]at hg
  have eh:(uL p s p.aq.length).2 (at' p.aa k).bus=bA p s (at' p.aa k).bus.toNat:=by unfold bA;rw [Int.toNat_of_nonneg (by omega)]
  have hil: ∀k,(dW p s p.ar.toNat k).length=(rts p s p.ar.toNat).length:=fun k=>by unfold dW;rw [de]
  have hat:at' (dW p s p.ar.toNat k) j=⟨Gi p s p.ar.toNat (bA p s (at' p.aa k).bus.toNat),sG p s k (bA p s (at' p.aa k).bus.toNat)⟩:=by unfold dW;rw [vS hj,e]
  have hsl:=I9 (p:=p) (s:=s) k (bA p s (at' p.aa k).bus.toNat)
  rw [bt,Hz hp,bs,eh,hg,Option.getD_some,bw,hat,au ⟨by rw [hil];omega,by simp;omega,by simp;omega⟩]
  refine congrArg (fun l=>some (aH.next (l,_))) ?_
  refine uT (by rw [cJ,hil,hil]) fun i hi=> ?_
  rw [cJ,hil]at hi
  have h5:at' (dW p s p.ar.toNat (k+1)) i=⟨Gi p s p.ar.toNat (at' (rts p s p.ar.toNat) i),sG p s (k+1) (at' (rts p s p.ar.toNat) i)⟩:=by unfold dW;rw [vS hi]
  rw [h5,La,hf]
  by_cases e2:j=i
  ·subst e2
   rw [bU (by rw [hil];omega),e]
   simp
  ·rw [bM e2]
   have:bA p s (at' p.aa k).bus.toNat≠at' (rts p s p.ar.toNat) i:=fun q=>by
    have hn:=rM (p:=p) (s:=s) p.ar.toNat
    rw [fG hi,<-e,fG hj]at q
    exact e2 ((List.getElem_inj hn).1 q)
   rw [bz this]
   unfold dW;rw [vS hi];simp
theorem Kk:ig p s=some (dW p s p.ar.toNat p.aa.length):=by
 have hb:=hp.b;have h4:=hp.sl
 unfold ig
 simp only [lQ,bs]
 rw [CG hp hs,bs]
 have e1:ay (bQ p s ⟨(uL p s p.aq.length).1⟩) FUEL (dW p s 0 0,Nh (rts p s 0),((0:Nat):Int))=some (.brk (dW p s p.ar.toNat 0,Nh (rts p s p.ar.toNat))):=by
  refine aU (fun t=>(dW p s t 0,Nh (rts p s t),(t:Int))) p.ar.toNat _ (fuel_lt (by omega)) (fun t ht=>UC hp hs (by omega)) ?_
  unfold bQ
  dsimp only
  rw [bz (by omega)];rfl
 have e1':ay (bQ p s ⟨(uL p s p.aq.length).1⟩) FUEL (([]:List aI),([]:List (Int × Int)),0)=_:=e1
 have e2:ay (bP p s ⟨(uL p s p.aq.length).1⟩ (Nh (rts p s p.ar.toNat))) FUEL (dW p s p.ar.toNat 0,((0:Nat):Int))=some (.brk (dW p s p.ar.toNat p.aa.length)):=by
  refine aU (fun k=>(dW p s p.ar.toNat k,(k:Int))) p.aa.length _ (fuel_lt (by omega)) (fun k hk=>SF hp hs hk) ?_
  unfold bP
  dsimp only
  rw [bz (by omega)];rfl
 have e2':ay (bP p s ⟨(uL p s p.aq.length).1⟩ (Nh (rts p s p.ar.toNat))) FUEL (dW p s p.ar.toNat 0,0)=_:=e2
 rw [e1']
 simp only [bs]
 rw [e2'];rfl
end
theorem wR (a b:Bool):(bif a then true else b)=(a||b):=by cases a<;>rfl
theorem uM {a b:Int} (h:a<b):decide (a<b)=true:=bx h
theorem jE {a b:Int} (h:b<=a):decide (a<b)=false:=bz (by omega)
def dS {α:Type} (f:Nat->List α):Nat->List α
 |0=>[]
 |n+1=>dS f n++f n
theorem fJ {α:Type} {f:Nat->List α} {x:α}: ∀{n:Nat},x∈dS f n↔ ∃i,i<n/\x∈f i
 |0=>by simp [dS]
 |n+1=>by
  rw [dS,cz,fJ]
  constructor
  ·rintro (⟨i,h,g⟩|g)
   ·exact⟨i,by omega,g⟩
   ·exact⟨n,by omega,g⟩
  ·rintro ⟨i,h,g⟩
   by_cases e:i=n
   ·subst e;exact .inr g
   ·exact .inl ⟨i,by omega,g⟩
theorem jk {α:Type} {f:Nat->List α} {m:Nat}: ∀{n:Nat},(∀i,i<n->(f i).length<=m)->(dS f n).length<=n*m
 |0,_=>by simp [dS]
 |n+1,h=>by
  have h1:=jk (n:=n) fun i hi=>h i (by omega)
  have h2:=h n (by omega)
  rw [dS,b_,ec,ee];omega
theorem vv {α ρ:Type} {body:List α × Int->Option (aH (List α × Int) (Ex (List α) ρ))} (k n:Nat) (f:Nat->List α) (o0:List α) (hn:n<=1000000000)
  (hb: ∀i,i<n->body (o0++dS f i,((k+i:Nat):Int))=some (.next (o0++dS f (i+1),((k+(i+1):Nat):Int)))) (he:body (o0++dS f n,((k+n:Nat):Int))=some (.done (.brk (o0++dS f n)))):
  ay body FUEL (o0,(k:Int))=some (.brk (o0++dS f n)):=by
 have:=aU (N:=FUEL) (body:=body) (fun i=>(o0++dS f i,((k+i:Nat):Int))) n (.brk (o0++dS f n)) (fuel_lt (by omega)) hb he
 simpa [dS]using this
def XM (a b:Source):Bool:=decide (a.bp=0)|| !decide (a.bp=b.bp)
def Lb (p:ah) (a b:Int):List ai:=if XM (at' p.aa a.toNat) (at' p.aa b.toNat)=true then [⟨a,b⟩]else []
theorem M7 (p:ah) (a b:Int):(Lb p a b).length<=1:=by unfold Lb;split<;>simp
def oV (p:ah) (l:List Int):List ai:=dS (fun i=>dS (fun j=>Lb p (at' l i) (at' (l.drop (i+1)) j)) (l.length - (i+1))) l.length
theorem D5 (p:ah) (l:List Int) (hl:l.length<=8):(oV p l).length<=64:=by
 have h1: ∀i,i<l.length->(dS (fun j=>Lb p (at' l i) (at' (l.drop (i+1)) j)) (l.length - (i+1))).length<=8:=fun i hi=>by
  have:=jk (f:=fun j=>Lb p (at' l i) (at' (l.drop (i+1)) j)) (n:=l.length - (i+1)) (m:=1) fun j _=>M7 _ _ _
  omega
 have:=jk h1
 unfold oV
 have h2:l.length*8<=8*8:=cH 8 hl
 omega
def ClP (p:ah) (s:State) (x:ai):Prop:= ∃i k:Nat,x=⟨i,k⟩/\i<k/\k<p.aa.length/\iH p s i=true/\iH p s k=true/\(∃l,Wk p s (at' p.aa i).bus.toNat l (at' p.aa k).bus.toNat)/\XM (at' p.aa i) (at' p.aa k)=true
def Oo (p:ah) (s:State):List ai:=dS (fun t=>oV p (at' (dW p s p.ar.toNat p.aa.length) t).aa) (dW p s p.ar.toNat p.aa.length).length
def J7 (p:ah) (s:State):List ai:=(Oo p s).mergeSort fun x y=> !decide (bn y x<0)
section
variable {p:ah} {s:State} (hp:VP p) (hs:VS p s)
include hp
theorem U8 {isl:List aI} {t i:Nat} (ht:t<isl.length) (hl:(at' isl t).aa.length<=8) (hm: ∀x∈(at' isl t).aa,0<=x/\x<(p.aa.length:Int)) (hi:i<(at' isl t).aa.length) (o:List ai) (ho:o.length<=100000):
  ay (lS p isl (t:Int) (i:Int)) FUEL (o,0)=some (.brk (o++dS (fun j=>Lb p (at' (at' isl t).aa i) (at' ((at' isl t).aa.drop (i+1)) j)) ((at' isl t).aa.length - (i+1)))):=by
 have hsl:=hp.sl
 generalize hL:(at' isl t).aa=l at*
 have hw:(IntKind.wrap .i64 ((i:Int)+1)).toNat=i+1:=by rw [wr (by omega)];omega
 refine vv 0 (l.length - (i+1)) (fun j=>Lb p (at' l i) (at' (l.drop (i+1)) j)) o (by omega) (fun j hj=> ?_) ?_
 ·have hA:=jk (f:=fun j=>Lb p (at' l i) (at' (l.drop (i+1)) j)) (n:=j) (m:=1) fun j _=>M7 _ _ _
  unfold lS
  simp only [bw,hL,hw,cC]
  have hd:(l.drop (i+1)).length=l.length - (i+1):=dE
  rw [uM (by omega),bt,au (by rw [hd];omega)]
  have hx1:=hm _ (at_mem hi)
  have hjd:j<(l.drop (i+1)).length:=by omega
  have hx2:=hm _ (List.mem_of_mem_drop (at_mem hjd))
  rw [au ⟨hx1,fun _=>hx1,fun _=>hx2⟩,wR,wr (x:=(j:Int)+1) (by omega)]
  show(bif XM (at' p.aa (at' l i).toNat) (at' p.aa (at' (l.drop (i+1)) j).toNat)then _ else _)=_
  rw [dS]
  unfold Lb
  cases hc:XM (at' p.aa (at' l i).toNat) (at' p.aa (at' (l.drop (i+1)) j).toNat)with
  |true=>
   rw [bt,ci rfl,au ⟨by simp only [b_,cw];unfold Lb at hA;omega,by simp only [b_,cw];unfold Lb at hA;omega⟩,cS]
   rfl
  |false=>
   rw [bu,ce (by simp),cX]
   rfl
 ·unfold lS
  simp only [bw,hL,hw,cC]
  have:decide (((l.length - (i+1):Nat):Int)<((l.length - (i+1):Nat):Int))=false:=bz (by omega)
  rw [this,bu]
theorem Xt {isl:List aI} {t:Nat} (ht:t<isl.length) (hl:(at' isl t).aa.length<=8) (hm: ∀x∈(at' isl t).aa,0<=x/\x<(p.aa.length:Int)) (o:List ai) (ho:o.length<=90000):
  ay (lI p isl (t:Int)) FUEL (o,0)=some (.brk (o++oV p (at' isl t).aa)):=by
 have hsl:=hp.sl
 refine vv 0 (at' isl t).aa.length (fun i=>dS (fun j=>Lb p (at' (at' isl t).aa i) (at' ((at' isl t).aa.drop (i+1)) j)) ((at' isl t).aa.length - (i+1))) o (by omega) (fun i hi=> ?_) ?_
 ·have hA:=jk (f:=fun i=>dS (fun j=>Lb p (at' (at' isl t).aa i) (at' ((at' isl t).aa.drop (i+1)) j)) ((at' isl t).aa.length - (i+1))) (n:=i) (m:=8) fun i' _=>by
   have:=jk (f:=fun j=>Lb p (at' (at' isl t).aa i') (at' ((at' isl t).aa.drop (i'+1)) j)) (n:=(at' isl t).aa.length - (i'+1)) (m:=1) fun j _=>M7 _ _ _
   omega
  have h8:i*8<=8*8:=cH 8 (by omega)
  unfold lI
  simp only [bw,cC]
  rw [uM (by omega),bt,au (by omega),wr (by omega),au (by omega),U8 hp ht hl hm hi _ (by rw [b_];omega),bs]
  rw [dS,cS]
  rfl
 ·unfold lI
  simp only [bw,cC]
  have:decide (((at' isl t).aa.length:Int)<((at' isl t).aa.length:Int))=false:=bz (by omega)
  rw [this,bu]
theorem Xd {isl:List aI} (hn:isl.length<=24) (hl: ∀t,t<isl.length->(at' isl t).aa.length<=8) (hm: ∀t,t<isl.length-> ∀x∈(at' isl t).aa,0<=x/\x<(p.aa.length:Int)):
  ay (je p isl) FUEL ([],0)=some (.brk (dS (fun t=>oV p (at' isl t).aa) isl.length)):=by
 have:=vv (body:=je p isl) 0 isl.length (fun t=>oV p (at' isl t).aa) [] (by omega) (fun t ht=> ?_) ?_
 ·simpa using this
 ·have hA:=jk (f:=fun t=>oV p (at' isl t).aa) (n:=t) (m:=64) fun i hi=>D5 _ _ (hl i (by omega))
  have h8:t*64<=24*64:=cH 64 (by omega)
  unfold je
  simp only [bw,cC]
  rw [uM (by omega),bt,au (by omega),Xt hp ht (hl t ht) (hm t ht) _ (by rw [b_];simp;omega),bs,wr (by omega),dS,cS]
  rfl
 ·unfold je
  simp only [bw,cC]
  have:decide ((isl.length:Int)<(isl.length:Int))=false:=bz (by omega)
  rw [this,bu]
include hs
theorem Il:dR p s=some (J7 p s,0)/\ ∀x,x∈J7 p s↔ClP p s x:=by
 have hb:=hp.b;have hsl:=hp.sl
 have hrl:=Fs (p:=p) (s:=s) p.ar.toNat
 have hlen:(dW p s p.ar.toNat p.aa.length).length=(rts p s p.ar.toNat).length:=by simp [dW]
 have hat: ∀t,t<(rts p s p.ar.toNat).length->(at' (dW p s p.ar.toNat p.aa.length) t).aa=sG p s p.aa.length (at' (rts p s p.ar.toNat) t):=fun t ht=>by
  unfold dW;rw [vS ht]
 have hss: ∀h x,x∈sG p s p.aa.length h↔ ∃i:Nat,x=(i:Int)/\i<p.aa.length/\iH p s i=true/\bA p s (at' p.aa i).bus.toNat=h:=by
  intro h x
  unfold sG
  rw [List.mem_map]
  constructor
  ·rintro ⟨i,hi,rfl⟩
   rw [c_,c7,cd,dc]at hi
   exact⟨i,rfl,hi.1,hi.2.1,hi.2.2⟩
  ·rintro ⟨i,rfl,h1,h2,h3⟩
   exact⟨i,c_.2 ⟨c7.2 h1,by rw [h2,bx h3];rfl⟩,rfl⟩
 have hsorted: ∀h,(sG p s p.aa.length h).Pairwise (· < ·):=by
  intro h
  unfold sG
  rw [List.pairwise_map]
  exact(List.pairwise_lt_range.filter _).imp fun hab=>Int.ofNat_lt.2 hab
 have hl8: ∀t,t<(dW p s p.ar.toNat p.aa.length).length->(at' (dW p s p.ar.toNat p.aa.length) t).aa.length<=8:=fun t ht=>by
  rw [hat t (by omega)];have:=I9 (p:=p) (s:=s) p.aa.length (at' (rts p s p.ar.toNat) t);omega
 have hmm: ∀t,t<(dW p s p.ar.toNat p.aa.length).length-> ∀x∈(at' (dW p s p.ar.toNat p.aa.length) t).aa,0<=x/\x<(p.aa.length:Int):=fun t ht x hx=>by
  rw [hat t (by omega),hss]at hx;obtain⟨i,rfl,h1,_⟩:=hx;omega
 unfold J7 Oo
 generalize hout:dS (fun t=>oV p (at' (dW p s p.ar.toNat p.aa.length) t).aa) (dW p s p.ar.toNat p.aa.length).length=out
 have hol:out.length<=24*64:=by
  have hA:=jk (f:=fun t=>oV p (at' (dW p s p.ar.toNat p.aa.length) t).aa) (n:=(dW p s p.ar.toNat p.aa.length).length) (m:=64) fun i hi=>D5 _ _ (hl8 i hi)
  rw [hout]at hA
  have:(dW p s p.ar.toNat p.aa.length).length*64<=24*64:=cH 64 (by omega)
  omega
 have hlm:(out.mergeSort fun x y=> !decide (bn y x<0)).length=out.length:=List.length_mergeSort _
 refine⟨?_,fun x=> ?_⟩
 ·unfold dR
  have h0:rD p s=0:=iO.mpr ⟨hp,hs⟩
  rw [pI p s (VP.small hp),h0,bs]
  simp only [decide_true,cD,bu]
  rw [Kk hp hs,bs,Xd hp (by omega) hl8 hmm]
  simp only [bs]
  rw [hout]
  have hsf:jQ out=some (out.mergeSort fun x y=> !decide (bn y x<0)):=by
   clear hlm hout
   cases out with
   |nil=>simp [jQ]
   |cons a l=>unfold jQ;simp only;rw [bx (by omega)];rfl
  rw [hsf,bs,au hlm.symm]
 ·rw [List.mem_mergeSort]
  constructor
  ·intro hx
   rw [<-hout,fJ]at hx
   obtain⟨t,ht,hx⟩:=hx
   have ht':t<(rts p s p.ar.toNat).length:=by omega
   rw [hat t ht']at hx
   unfold oV at hx
   rw [fJ]at hx
   obtain⟨i,hi,hx⟩:=hx
   rw [fJ]at hx
   obtain⟨j,hj,hx⟩:=hx
   unfold Lb at hx
   split at hx
   ·rename_i hc
    have hjd:j<((sG p s p.aa.length (at' (rts p s p.ar.toNat) t)).drop (i+1)).length:=by rw [dE];exact hj
    rw [yM]at hc
    have hi2:j+(i+1)<(sG p s p.aa.length (at' (rts p s p.ar.toNat) t)).length:=by omega
    obtain⟨a,ea,ha1,ha2,ha3⟩:=(hss _ _).1 (at_mem hi)
    obtain⟨b,eb,hb1,hb2,hb3⟩:=(hss _ _).1 (at_mem hi2)
    have hlt:at' (sG p s p.aa.length (at' (rts p s p.ar.toNat) t)) i<at' (sG p s p.aa.length (at' (rts p s p.ar.toNat) t)) (j+(i+1)):=by
     rw [fG hi,fG hi2]
     exact List.pairwise_iff_getElem.1 (hsorted _) i (j+(i+1)) hi hi2 (by omega)
    rw [ea,eb]at hc hlt
    rw [cF]at hx
    refine⟨a,b,by rw [hx,yM,ea,eb],by omega,hb1,ha2,hb2, ?_,by simpa using hc⟩
    have hA:=(hp.src a ha1).bus;have hB:=(hp.src b hb1).bus
    exact(uQ hp (by omega) (by omega)).1 (ha3.trans hb3.symm)
   ·cases hx
  ·rintro ⟨a,b,rfl,hab,hb1,ha2,hb2,hw,hc⟩
   have ha1:a<p.aa.length:=by omega
   have hA:=(hp.src a ha1).bus;have hB:=(hp.src b hb1).bus
   have hh:=(uQ hp (u:=(at' p.aa a).bus.toNat) (v:=(at' p.aa b).bus.toNat) (by omega) (by omega)).2 hw
   have hfa:at' s.al (at' p.aa a).bus.toNat=false:=by
    unfold iH at ha2;simp only [cd,da]at ha2;exact ha2.2
   have hr:bA p s (at' p.aa a).bus.toNat∈rts p s p.ar.toNat:=BL.2 ⟨_,by omega,hfa,rfl⟩
   obtain⟨t,ht,et⟩:=iU hr
   have m1:((a:Nat):Int)∈sG p s p.aa.length (at' (rts p s p.ar.toNat) t):=(hss _ _).2 ⟨a,rfl,ha1,ha2,et.symm⟩
   have m2:((b:Nat):Int)∈sG p s p.aa.length (at' (rts p s p.ar.toNat) t):=(hss _ _).2 ⟨b,rfl,hb1,hb2,by rw [et];exact hh.symm⟩
   obtain⟨i,hi,ei⟩:=iU m1
   obtain⟨k,hk,ek⟩:=iU m2
   have hik:i<k:=by
    rcases Nat.lt_trichotomy i k with h|h|h
    ·exact h
    ·subst h;rw [ei]at ek;omega
    ·have:=List.pairwise_iff_getElem.1 (hsorted (at' (rts p s p.ar.toNat) t)) k i hk hi h
     rw [<-fG hk,<-fG hi,ei,ek]at this;omega
   rw [<-hout,fJ]
   refine⟨t,by omega, ?_⟩
   rw [hat t ht]
   unfold oV
   rw [fJ]
   refine⟨i,hi,fJ.2 ⟨k - (i+1),by omega, ?_⟩⟩
   rw [yM,show k - (i+1)+(i+1)=k by omega,ei,ek]
   unfold Lb
   rw [ci (by simpa using hc)]
   exact cF.2 rfl
end
theorem Nz {p:ah} {s:State} {t:Nat} {h x:Int}:x∈sG p s t h↔ ∃k:Nat,x=k/\k<t/\iH p s k=true/\bA p s (at' p.aa k).bus.toNat=h:=by
 unfold sG
 rw [List.mem_map]
 constructor
 ·rintro ⟨b,hb,rfl⟩
  rw [c_]at hb
  simp only [cd,dc,c7]at hb
  exact⟨b,rfl,hb.1,hb.2.1,hb.2.2⟩
 ·rintro ⟨b,rfl,h1,h2,h3⟩
  refine⟨b,c_.2 ⟨c7.2 h1,by rw [h2,h3,bx rfl];rfl⟩,rfl⟩
theorem VJ {l:List Int} (h:l.Pairwise (· < ·)) {i j:Nat} (hij:i<j) (hj:j<l.length):at' l i<at' l j:=by
 rw [fG (by omega),fG hj]
 exact List.pairwise_iff_getElem.1 h i j (by omega) hj hij
section
variable {p:ah} {s:State} (hp:VP p) (hs:VS p s)
include hp hs
theorem SC {L:List Bool} (h1:fB p s=some (L,0)) (h3:(L.length:Int)=p.ar):wQ p s=some (tab p.a_.length (JK p L),0):=by
 have hrl:=hp.rl
 unfold wQ
 rw [h1,bs]
 dsimp only
 rw [bx (show(0:Int)=0 from rfl),cD,bu]
 have key:ay (kW p (L,0)) FUEL (tab 0 (JK p L),((0:Nat):Int))=some (.brk (tab p.a_.length (JK p L))):=by
  refine aU (body:=kW p (L,0)) (fun t=>(tab t (JK p L),(t:Int))) p.a_.length _ (fuel_lt (by omega)) (fun t ht=> ?_) ?_
  ·have hr:=hp.rck t ht
   have r0:=hr.e0;have r1:=hr.e1
   have q1: ∀l,gB ((decide (0<=(at' p.a_ t).bj.e1),true)::l)=true->0<=(at' p.a_ t).bj.e1:=fun l h=>by
    simp only [gB,cd,beq_iff_eq]at h;exact of_decide_eq_true h.1
   unfold kW
   dsimp only
   rw [uM (show(t:Int)<(p.a_.length:Int) by omega),bt,au (by omega),bw,au ⟨by omega,fun h=>by have:=q1 _ h;rw [ce (by omega)];omega,by rw [aY];simp;omega,by rw [aY];simp;omega⟩,wr (by omega),Oq]
   unfold JK
   cases hd:decide (0<=(at' p.a_ t).bj.e1)with
   |true=>
    have:=of_decide_eq_true hd
    rw [ce (by omega)];rfl
   |false=>rfl
  ·unfold kW
   dsimp only
   rw [bz (by omega)];rfl
 have key':ay (kW p (L,0)) FUEL ([],0)=_:=key
 rw [key'];rfl
end
theorem zm {α:Type} {f:Nat->List α}: ∀{n:Nat},(∀i,i<n->(f i).Nodup)->(∀i j x,i<n->j<n->x∈f i->x∈f j->i=j)->(dS f n).Nodup
 |0,_,_=>by simp [dS]
 |n+1,h,g=>by
  rw [dS,List.nodup_append]
  refine⟨zm (fun i hi=>h i (by omega)) (fun i j x hi hj=>g i j x (by omega) (by omega)),h n (by omega),fun a ha b hb e=> ?_⟩
  subst e
  obtain⟨i,hi,hm⟩:=fJ.1 ha
  have:=g i n a (by omega) (by omega) hm hb
  omega
theorem FV {α:Type} {R:α->α->Prop} {f:Nat->List α}: ∀{n:Nat},(∀i,i<n->(f i).Pairwise R)->(∀i j,i<j->j<n-> ∀x∈f i,∀y∈f j,R x y)->(dS f n).Pairwise R
 |0,_,_=>by simp [dS]
 |n+1,h,g=>by
  rw [dS,List.pairwise_append]
  refine⟨FV (fun i hi=>h i (by omega)) (fun i j hij hj=>g i j hij (by omega)),h n (by omega),fun a ha b hb=> ?_⟩
  obtain⟨i,hi,hm⟩:=fJ.1 ha
  exact g i n hi (by omega) a hm b hb
def Lx (x y:ai):Prop:=x.e0<y.e0\/(x.e0=y.e0/\x.e1<y.e1)
theorem Lx.irr {x:ai} (h:Lx x x):False:=by unfold Lx at h;omega
theorem Lx.asym {x y:ai} (h:Lx x y) (g:Lx y x):False:=by unfold Lx at h g;omega
theorem Lx.tri {x y:ai} (h: ¬ Lx y x) (hne:x≠y):Lx x y:=by
 unfold Lx at*
 by_cases e0:x.e0=y.e0
 ·by_cases e1:x.e1=y.e1
  ·exact absurd (by cases x;cases y;simp only at e0 e1;rw [e0,e1]) hne
  ·omega
 ·omega
theorem JD: ∀{l m:List ai},l.Pairwise Lx->m.Pairwise Lx->(∀x,x∈l↔x∈m)->l=m
 |[],[],_,_,_=>rfl
 |[],y::m,_,_,h=>by have:=(h y).2 (ct ..);cases this
 |x::l,[],_,_,h=>by have:=(h x).1 (ct ..);cases this
 |x::l,y::m,hl,hm,h=>by
  rw [List.pairwise_cons]at hl hm
  have e:x=y:=by
   have h1:=(h x).1 (ct ..)
   have h2:=(h y).2 (ct ..)
   rcases ef.1 h1 with h1|h1
   ·exact h1
   ·rcases ef.1 h2 with h2|h2
    ·exact h2.symm
    ·exact(Lx.asym (hm.1 _ h1) (hl.1 _ h2)).elim
  subst e
  rw [JD hl.2 hm.2 fun z=> ?_]
  constructor
  ·intro hz
   rcases ef.1 ((h z).1 (cm _ hz))with e|e
   ·subst e;exact(Lx.irr (hl.1 _ hz)).elim
   ·exact e
  ·intro hz
   rcases ef.1 ((h z).2 (cm _ hz))with e|e
   ·subst e;exact(Lx.irr (hm.1 _ hz)).elim
   ·exact e
theorem aaA (x y:ai):bn x y<0↔Lx x y:=by
 unfold bn Lx
 by_cases h1:x.e0<y.e0
 ·rw [ci h1];omega
 ·rw [ce h1]
  by_cases h2:y.e0<x.e0
  ·rw [ci h2];omega
  ·rw [ce h2]
   by_cases h3:x.e1<y.e1
   ·rw [ci h3];omega
   ·rw [ce h3]
    by_cases h4:y.e1<x.e1
    ·rw [ci h4];omega
    ·rw [ce h4];omega
theorem YC {l:List ai} (hn:l.Nodup):(l.mergeSort fun x y=> !decide (bn y x<0)).Pairwise Lx:=by
 have h1:=List.pairwise_mergeSort (le:=fun x y=> !decide (bn y x<0)) (fun a b c h g=>by
  simp only [da,db,aaA]at*
  unfold Lx at*;omega) (fun a b=>by
  rw [cP]
  simp only [da,db,aaA]
  unfold Lx;omega) l
 have h2:(l.mergeSort fun x y=> !decide (bn y x<0)).Nodup:=(List.mergeSort_perm l _).nodup_iff.2 hn
 refine(h1.and h2).imp fun{a b} h=> ?_
 obtain⟨h,hne⟩:=h
 simp only [da,db,aaA]at h
 exact Lx.tri h hne
theorem Sq (p:ah) (a b:Int):(Lb p a b).Nodup:=by unfold Lb;split<;>simp
theorem ET {p:ah} {a b:Int} {x:ai} (h:x∈Lb p a b):x=⟨a,b⟩:=by
 unfold Lb at h;split at h
 ·exact cF.1 h
 ·cases h
theorem Rw {l:List Int} (h:l.Pairwise (· < ·)) {i j:Nat} (hi:i<l.length) (hj:j<l.length) (e:at' l i=at' l j):i=j:=by
 by_cases q:i<j
 ·have:=VJ h q hj;omega
 ·by_cases q2:j<i
  ·have:=VJ h q2 hi;omega
  ·omega
theorem M5 {p:ah} {l:List Int} (h:l.Pairwise (· < ·)):(oV p l).Nodup:=by
 unfold oV
 refine zm (fun i hi=>zm (fun j _=>Sq _ _ _) fun j k x hj hk h1 h2=> ?_) fun i k x hi hk h1 h2=> ?_
 ·have e1:=ET h1;have e2:=ET h2
  rw [e1]at e2
  injection e2 with _ e2
  rw [yM,yM]at e2
  have:=Rw h (by omega) (by omega) e2
  omega
 ·obtain⟨j,_,g1⟩:=fJ.1 h1
  obtain⟨j',_,g2⟩:=fJ.1 h2
  have e1:=ET g1;have e2:=ET g2
  rw [e1]at e2
  injection e2 with e2 _
  exact Rw h hi hk e2
theorem Lm {p:ah} {l:List Int} {x:ai} (h:x∈oV p l):x.e0∈l:=by
 unfold oV at h
 obtain⟨i,hi,h⟩:=fJ.1 h
 obtain⟨j,_,h⟩:=fJ.1 h
 rw [ET h];exact at_mem hi
theorem VD (p:ah) (s:State) (t:Nat) (h:Int):(sG p s t h).Pairwise (· < ·):=by
 unfold sG
 rw [List.pairwise_map]
 exact(List.pairwise_lt_range.filter _).imp fun h=>Int.ofNat_lt.2 h
def PD (p:ah) (s:State) (i k:Nat):List ai:=if(iH p s i && iH p s k && decide (bA p s (at' p.aa i).bus.toNat=bA p s (at' p.aa k).bus.toNat) && XM (at' p.aa i) (at' p.aa k))=true then [⟨i,k⟩]else []
def VF (p:ah) (s:State):List ai:=dS (fun i=>dS (fun j=>PD p s i (i+1+j)) (p.aa.length - (i+1))) p.aa.length
theorem Rt (p:ah) (s:State) (i k:Nat):(PD p s i k).length<=1:=by unfold PD;split<;>simp
theorem BV {p:ah} {s:State} {i k:Nat} {x:ai}:x∈PD p s i k↔x=⟨i,k⟩/\iH p s i=true/\iH p s k=true/\bA p s (at' p.aa i).bus.toNat=bA p s (at' p.aa k).bus.toNat/\XM (at' p.aa i) (at' p.aa k)=true:=by
 unfold PD
 by_cases c:(iH p s i && iH p s k && decide (bA p s (at' p.aa i).bus.toNat=bA p s (at' p.aa k).bus.toNat) && XM (at' p.aa i) (at' p.aa k))=true
 ·rw [ci c,cF]
  simp only [cd,dc]at c
  exact⟨fun h=> ⟨h,c.1.1.1,c.1.1.2,c.1.2,c.2⟩,fun h=>h.1⟩
 ·rw [ce c]
  simp only [cd,dc]at c
  exact⟨fun h=>(by cases h),fun h=>absurd ⟨⟨⟨h.2.1,h.2.2.1⟩,h.2.2.2.1⟩,h.2.2.2.2⟩ c⟩
section
variable {p:ah} {s:State} (hp:VP p) (hs:VS p s)
include hp hs
theorem Uu:J7 p s=VF p s:=by
 have hP:=hp.b
 have hlen:(dW p s p.ar.toNat p.aa.length).length=(rts p s p.ar.toNat).length:=by simp [dW]
 have hat: ∀t,t<(rts p s p.ar.toNat).length->(at' (dW p s p.ar.toNat p.aa.length) t).aa=sG p s p.aa.length (at' (rts p s p.ar.toNat) t):=fun t ht=>by
  unfold dW;rw [vS ht]
 have hn:(Oo p s).Nodup:=by
  unfold Oo
  refine zm (fun t ht=> ?_) fun t u x ht hu h1 h2=> ?_
  ·rw [hat t (by omega)];exact M5 (VD _ _ _ _)
  ·rw [hat t (by omega)]at h1;rw [hat u (by omega)]at h2
   obtain⟨a,e1,_,_,g1⟩:=Nz.1 (Lm h1)
   obtain⟨b,e2,_,_,g2⟩:=Nz.1 (Lm h2)
   have:a=b:=by omega
   subst this
   have e3:=g1.symm.trans g2
   have ht':t<(rts p s p.ar.toNat).length:=by omega
   have hu':u<(rts p s p.ar.toNat).length:=by omega
   rw [fG ht',fG hu']at e3
   exact(List.getElem_inj (rM _)).1 e3
 refine JD (YC hn) ?_ fun x=> ?_
 ·refine FV (fun i hi=>FV (fun j hj=> ?_) fun j k hjk hk x hx y hy=> ?_) fun i k hik hk x hx y hy=> ?_
  ·unfold PD;split<;>simp
  ·rw [(BV.1 hx).1,(BV.1 hy).1]
   right;exact⟨rfl,by simp only;omega⟩
  ·obtain⟨j,_,h1⟩:=fJ.1 hx
   obtain⟨j',_,h2⟩:=fJ.1 hy
   rw [(BV.1 h1).1,(BV.1 h2).1]
   left;simp only;omega
 ·show x∈J7 p s↔_
  rw [(Il hp hs).2 x]
  unfold VF
  rw [fJ]
  constructor
  ·rintro ⟨i,k,rfl,hik,hk,f1,f2,hw,hc⟩
   have hA:=(hp.src i (by omega)).bus;have hB:=(hp.src k hk).bus
   exact⟨i,by omega,fJ.2 ⟨k - (i+1),by omega,BV.2 (by
    rw [show i+1+(k - (i+1))=k by omega]
    exact⟨rfl,f1,f2,(uQ hp (by omega) (by omega)).2 hw,hc⟩)⟩⟩
  ·rintro ⟨i,hi,h⟩
   obtain⟨j,hj,h⟩:=fJ.1 h
   obtain⟨e,f1,f2,hh,hc⟩:=BV.1 h
   have hA:=(hp.src i (by omega)).bus;have hB:=(hp.src (i+1+j) (by omega)).bus
   exact⟨i,i+1+j,e,by omega,by omega,f1,f2,(uQ hp (by omega) (by omega)).1 hh,hc⟩
theorem Rl {i k:Nat} (hi:i<p.aa.length) (hk:k<p.aa.length) (o:List ai) (ho:o.length<=100000):
  jg p s (i:Int) (o,(k:Int))=some (.next (o++PD p s i k,((k+1:Nat):Int))):=by
 have hA:=(hp.src i hi).bus;have hB:=(hp.src k hk).bus;have hP:=hp.b;have hsl:=hp.sl
 unfold jg
 dsimp only
 rw [uM (show(k:Int)<(p.aa.length:Int) by omega),bt,AZ hp hs hi,bs,wr (by omega),bw,bw]
 unfold PD
 cases f1:iH p s i with
 |false=>
  simp only [show gB [(false,true)]=false from rfl,bu,bs,Bool.false_and]
  rw [au ⟨fun h=>(by cases h),fun h=>(by cases h),fun h=>(by cases h),fun h=>(by cases h),fun h=>(by cases h)⟩]
  rw [ce (by simp),cX];rfl
 |true=>
  rw [show gB [(true,true)]=true from rfl,bt,AZ hp hs hk,bs,bt]
  cases f2:iH p s k with
  |false=>
   simp only [show gB [(false,true)]=false from rfl,bu,bs,Bool.false_and,Bool.and_false]
   rw [au ⟨fun h=>(by cases h),fun h=>(by cases h),fun h=>(by cases h),fun h=>(by cases h),fun h=>(by cases h)⟩]
   rw [ce (by simp),cX];rfl
  |true=>
   obtain⟨R,hR,hRl,hRa⟩:=GI hp hs (b:=(at' p.aa i).bus.toNat) (by omega)
   rw [Int.toNat_of_nonneg (by omega)]at hR
   have hRb:at' R (at' p.aa k).bus.toNat=decide (bA p s (at' p.aa i).bus.toNat=bA p s (at' p.aa k).bus.toNat):=by
    rw [Bool.eq_iff_iff,hRa _ (by omega),dc,uQ hp (by omega) (by omega)]
   rw [show gB [(true,true)]=true from rfl,bt,hR,bs,bt,hRb]
   cases hd:decide (bA p s (at' p.aa i).bus.toNat=bA p s (at' p.aa k).bus.toNat)with
   |false=>
    simp only [show gB [(false,true)]=false from rfl,bu,bs]
    rw [au ⟨fun _=>by omega,fun _=>by omega,fun _=>by omega,fun h=>(by cases h),fun h=>(by cases h)⟩]
    rw [ce (by simp),cX];rfl
   |true=>
    have hcl:rW (at' p.aa i) (at' p.aa k)=some (XM (at' p.aa i) (at' p.aa k)):=by
     unfold rW XM
     cases decide ((at' p.aa i).bp=(at' p.aa k).bp)<;>cases decide ((at' p.aa i).bp=0)<;>rfl
    rw [show gB [(true,true)]=true from rfl,bt,hcl,bs,bt]
    rw [au ⟨fun _=>by omega,fun _=>by omega,fun _=>by omega,fun _=>by omega,fun _=>by omega⟩]
    cases hc:XM (at' p.aa i) (at' p.aa k)with
    |false=>rw [bu,ce (by simp),cX];rfl
    |true=>
     rw [bt,ci (show(true && true && true && true)=true from rfl),au ⟨by simp;omega,by simp;omega⟩];rfl
theorem Kj (h0:dw p s=some 0):eu p s=some (J7 p s,0):=by
 have hsl:=hp.sl
 rw [Uu hp hs]
 unfold eu
 rw [h0,bs,bx (show(0:Int)=0 from rfl),cD,bu]
 have hin: ∀i,(dS (fun j=>PD p s i (i+1+j)) (p.aa.length - (i+1))).length<=8:=fun i=>by
  have:=jk (f:=fun j=>PD p s i (i+1+j)) (n:=p.aa.length - (i+1)) (m:=1) fun j _=>Rt _ _ _ _
  omega
 have L1: ∀i,i<p.aa.length-> ∀o:List ai,o.length<=10000->ay (jg p s (i:Int)) FUEL (o,((i+1:Nat):Int))=some (.brk (o++dS (fun j=>PD p s i (i+1+j)) (p.aa.length - (i+1)))):=by
  intro i hi o ho
  refine vv (i+1) (p.aa.length - (i+1)) (fun j=>PD p s i (i+1+j)) o (by omega) (fun j hj=> ?_) ?_
  ·have hA:=jk (f:=fun j=>PD p s i (i+1+j)) (n:=j) (m:=1) fun j _=>Rt _ _ _ _
   rw [Rl hp hs hi (by omega) _ (by rw [b_];omega),dS,cS]
   rfl
  ·unfold jg
   dsimp only
   rw [jE (by omega),bu]
 have L0:ay (jh p s) FUEL ([],((0:Nat):Int))=some (.brk ([]++VF p s)):=by
  refine vv 0 p.aa.length (fun i=>dS (fun j=>PD p s i (i+1+j)) (p.aa.length - (i+1))) [] (by omega) (fun i hi=> ?_) ?_
  ·have hA:=jk (f:=fun i=>dS (fun j=>PD p s i (i+1+j)) (p.aa.length - (i+1))) (n:=i) (m:=8) fun j _=>hin j
   have h8:i*8<=8*8:=cH 8 (by omega)
   unfold jh
   dsimp only
   rw [cC,uM (by omega),bt,wr (by omega)]
   have:=L1 i hi ([]++dS (fun i=>dS (fun j=>PD p s i (i+1+j)) (p.aa.length - (i+1))) i) (by rw [cY];omega)
   rw [show((i:Int)+1)=((i+1:Nat):Int) by omega,this,bs,dS,cS,cC]
  ·unfold jh
   dsimp only
   rw [jE (by omega),bu]
 have L0':ay (jh p s) FUEL ([],0)=_:=L0
 rw [L0',bs,cY]
end
theorem EQ {α:Type} [Inhabited α] {ρ:Type} {body:Int->Option (aH Int (Ex Unit ρ))} (l:List α) (hl:l.length<=9223372036854775807) (hb: ∀t:Nat,t<l.length->body (t:Int)=some (.next ((t:Int)+1))) (he:body (l.length:Int)=some (.done (.brk ()))):ay body FUEL 0=some (.brk ()):=
 aU (fun t=>(t:Int)) l.length _ (fuel_lt hl) (fun t ht=>by rw [hb t ht];rfl) he
theorem j3 (a b:List Bool) (ha:a.length<=9223372036854775807):bN a b=some (decide (a=b)):=by
 unfold bN
 by_cases hl:a.length=b.length
 ·have h1:decide ((a.length:Int)=(b.length:Int))=true:=bx (by omega)
  rw [h1]
  simp only [cD,bu]
  have key:ay (kF a b) FUEL 0=some (match(List.range a.length).find? (fun i=> !(at' a i==at' b i))with|some _=> .ret false|none=> .brk ()):=by
   refine fE a.length (fun i=> !(at' a i==at' b i)) (fun _=>false) ha (fun i hi=> ?_) ?_
   ·unfold kF
    have h1:decide ((i:Int)<(a.length:Int))=true:=bx (by omega)
    rw [h1,bt,au (by omega),bw,wr (by omega)]
    exact Br _ _ _
   ·unfold kF;simp
  rw [key]
  cases hf:(List.range a.length).find? (fun i=> !(at' a i==at' b i))with
  |none=>
   rw [List.find?_eq_none]at hf
   have:a=b:=uT hl fun i hi=>by
    have:=hf i (List.mem_range.mpr hi);simpa using this
   simp [this]
  |some k=>
   have hk:=List.mem_of_find?_eq_some hf
   have hp:=List.find?_some hf
   have:a≠b:=by intro e;subst e;simp at hp
   simp [this]
 ·have h1:decide ((a.length:Int)=(b.length:Int))=false:=bz (by omega)
  have h2:a≠b:=fun e=>hl (by rw [e])
  rw [h1];simp [h2]
structure Ev (s:State):Prop where
 l0:s.ap.length<=140737488351232
 l1:s.aw.length<=140737488351232
 l2:s.ag.length<=140737488351232
 l3:s.on_.length<=140737488351232
 l4:s.ae.length<=140737488351232
 l5:s.am.length<=140737488351232
 l6:s.al.length<=140737488351232
theorem iw (l:List Bool) (h:l.length<=140737488351232):dA l=some l:=by
 unfold dA;rw [au (by omega)]
theorem wh (s:State) (h:Ev s):fF s=some s:=by
 obtain⟨h0,h1,h2,h3,h4,h5,h6⟩:=h
 unfold fF
 rw [iw _ h0,iw _ h1,iw _ h2,iw _ h3,iw _ h4,iw _ h5,iw _ h6]
 rfl
theorem vJ (a:State) (h:Ev a):gY a a=some true:=by
 obtain⟨h0,h1,h2,h3,h4,h5,h6⟩:=h
 unfold gY
 rw [j3 _ _ (by omega),j3 _ _ (by omega),j3 _ _ (by omega),j3 _ _ (by omega),j3 _ _ (by omega),j3 _ _ (by omega),j3 _ _ (by omega)]
 simp [gB]
theorem VS.room {p:ah} {s:State} (hp:VP p) (h:VS p s):Ev s:=by
 have h1:=hp.ll;have h2:=hp.sl;have h3:=hp.b
 obtain⟨a1,a2,a3,a4,a5,a6,a7,_⟩:=h
 exact⟨by omega,by omega,by omega,by omega,by omega,by omega,by omega⟩
theorem ji (l:List Bool) (h:l.length<=140737488351232):bB l=some l:=by
 unfold bB vX
 rw [cD,bu,au ⟨by simp only [List.length_nil];omega,by simp only [List.length_nil];omega⟩];rfl
theorem Lc (s:State) (h:Ev s):qN s=some s:=by
 obtain⟨h0,h1,h2,h3,h4,h5,h6⟩:=h
 unfold qN
 rw [ji _ h0,ji _ h1,ji _ h2,ji _ h3,ji _ h4,ji _ h5,ji _ h6]
 rfl
def wG (s:State) (x:Part) (b:Bool):State:=
 if x.kind=1 then⟨s.ap,s.aw,s.ag,s.on_,s.ae,s.am,s.al.set x.index.toNat b⟩
 else if x.kind=2 then⟨s.ap,s.aw,s.ag,s.on_,s.ae.set x.index.toNat b,s.am,s.al⟩
 else⟨s.ap,s.aw,s.ag.set x.index.toNat b,s.on_,s.ae,s.am,s.al⟩
def mP (p:ah) (x:Part):Prop:=0<=x.index/\(x.kind=1/\x.index<p.ar\/x.kind=2/\x.index<(p.aa.length:Int)\/x.kind=3/\x.index<(p.aq.length:Int))
section
variable {p:ah} {s:State} (hp:VP p) (hs:VS p s)
include hp hs
theorem L9 {x:Part} (hx:mP p x) (is:Bool):iZ p s x is=some (wG s x is,0):=by
 have hb:=hp.b;have hsl:=hp.sl;have hll:=hp.ll
 have h7:=hs.al;have h3:=hs.ag;have h5:=hs.ae
 obtain⟨c,j⟩:=x
 obtain⟨h0,h⟩:=hx
 simp only at h0 h
 unfold iZ
 rw [pI p s hp.small,iO.mpr ⟨hp,hs⟩,bs,bx rfl,cD,bu,Lc s (hs.room hp),bs]
 dsimp only
 rcases h with⟨rfl,hj⟩|⟨rfl,hj⟩|⟨rfl,hj⟩
 ·rw [show cK (1:Int) 1=true from rfl,bt,jI,bs,wr (by omega),xJ.mpr ⟨by omega,by omega⟩,cD,bu,au ⟨by omega,by omega⟩]
  rfl
 ·rw [show cK (2:Int) 1=false from rfl,bu,show cK (2:Int) 2=true from rfl,bt,jI,bs,wr (by omega),xJ.mpr ⟨by omega,by omega⟩,cD,bu,au ⟨by omega,by omega⟩]
  rfl
 ·rw [show cK (3:Int) 1=false from rfl,bu,show cK (3:Int) 2=false from rfl,bu,show cK (3:Int) 3=true from rfl,bt,jI,bs,wr (by omega),xJ.mpr ⟨by omega,by omega⟩,cD,bu,au ⟨by omega,by omega⟩]
  rfl
omit hp in
theorem VS.wG (x:Part) (b:Bool):VS p (wG s x b):=by
 have h7:=hs.al;have h3:=hs.ag;have h5:=hs.ae
 unfold Sg.wG
 split
 ·exact⟨hs.ap,hs.aw,hs.ag,hs.on,hs.ae,hs.am,by rw [cJ];exact h7,hs.cable⟩
 ·split
  ·exact⟨hs.ap,hs.aw,hs.ag,hs.on,by rw [cJ];exact h5,hs.am,hs.al,hs.cable⟩
  ·exact⟨hs.ap,hs.aw,by rw [cJ];exact h3,hs.on,hs.ae,hs.am,hs.al,hs.cable⟩
end
def Wv (s:State) (i:Nat):State:=⟨s.ap.set i true,s.aw,s.ag,s.on_,s.ae,s.am,s.al⟩
theorem abY {l:List Bool} {i q:Nat} (h:at' l q=true):at' (l.set i true) q=true:=by
 by_cases e:i=q
 ·subst e
  by_cases hl:i<l.length
  ·rw [bU hl]
  ·rw [List.set_eq_of_length_le (by omega)];exact h
 ·rwa [bM e]
theorem VS.close {p:ah} {s:State} (hs:VS p s) (i:Nat):VS p (Wv s i):=
 ⟨by unfold Wv;rw [cJ];exact hs.ap,hs.aw,hs.ag,hs.on,hs.ae,hs.am,hs.al,fun q hq hk=> ⟨abY (hs.cable q hq hk).1,(hs.cable q hq hk).2⟩⟩
def xg (s:State) (x:Part):Bool:=if x.kind=1 then at' s.al x.index.toNat else if x.kind=2 then at' s.ae x.index.toNat else at' s.ag x.index.toNat
def E0:State:=⟨[],[],[],[],[],[],[]⟩
theorem E0.room:Ev E0:=⟨by decide,by decide,by decide,by decide,by decide,by decide,by decide⟩
section
variable {p:ah} {s:State} (hp:VP p) (hs:VS p s)
include hp hs
theorem Qy {x:Part} (hx: ¬ mP p x) (is:Bool):iZ p s x is=some (E0,14):=by
 have hb:=hp.b;have hsl:=hp.sl;have hll:=hp.ll
 have h7:=hs.al;have h3:=hs.ag;have h5:=hs.ae
 unfold mP at hx
 unfold iZ
 rw [pI p s hp.small,iO.mpr ⟨hp,hs⟩,bs,bx rfl,cD,bu,Lc s (hs.room hp),bs]
 have wf: ∀n b:Int, ¬ (0<=n/\n<=b)->wi n 0 b=false:=fun n b h=>by
  cases e:wi n 0 b with
  |false=>rfl
  |true=>exact absurd (xJ.1 e) h
 by_cases k1:x.kind=1
 ·rw [BN.2 k1,bt,jI,bs,wr (by omega),wf _ _ (by omega),cE,bt];rfl
 ·rw [F9 k1,bu]
  by_cases k2:x.kind=2
  ·rw [BN.2 k2,bt,jI,bs,wr (by omega),wf _ _ (by omega),cE,bt];rfl
  ·rw [F9 k2,bu]
   by_cases k3:x.kind=3
   ·rw [BN.2 k3,bt,jI,bs,wr (by omega),wf _ _ (by omega),cE,bt];rfl
   ·rw [F9 k3,bu,jI,bs,wf _ _ (by omega),cE,bt];rfl
omit hp hs in
theorem Ml {l:List Bool} {i:Int} (hl:l.length<=1000000) (hi:0<=i/\i<(l.length:Int)) (b:Bool):oz l i b=some (l.set i.toNat b):=by
 unfold oz
 rw [au ⟨by simp;omega,by simp;omega⟩,au (by simpa using hi),cY]
theorem EN {x:Part} (hx:mP p x) (is:Bool):gJ p s x is=some (wG s x is,0):=by
 have hb:=hp.b;have hsl:=hp.sl;have hll:=hp.ll
 have h7:=hs.al;have h3:=hs.ag;have h5:=hs.ae
 obtain⟨c,j⟩:=x
 obtain⟨h0,h⟩:=hx
 simp only at h0 h
 unfold gJ
 rw [kK p s hp.small,iO.mpr ⟨hp,hs⟩,bs,bx rfl,cD,bu]
 dsimp only
 rw [jE (by omega),bu]
 rcases h with⟨rfl,hj⟩|⟨rfl,hj⟩|⟨rfl,hj⟩
 ·rw [bx (rfl:(1:Int)=1),bt,uM hj,bt,Ml (by omega) ⟨by omega,by omega⟩];rfl
 ·rw [bz (by decide: ¬ (2:Int)=1),bu,bu,bx (rfl:(2:Int)=2),bt,uM hj,bt,Ml (by omega) ⟨by omega,by omega⟩];rfl
 ·rw [bz (by decide: ¬ (3:Int)=1),bu,bu,bz (by decide: ¬ (3:Int)=2),bu,bu,bx (rfl:(3:Int)=3),bt,uM hj,bt,Ml (by omega) ⟨by omega,by omega⟩];rfl
theorem KH {x:Part} (hx: ¬ mP p x) (is:Bool):gJ p s x is=some (E0,14):=by
 unfold mP at hx
 unfold gJ
 rw [kK p s hp.small,iO.mpr ⟨hp,hs⟩,bs,bx rfl,cD,bu]
 by_cases h0:x.index<0
 ·rw [uM h0,bt];rfl
 ·rw [jE (by omega),bu]
  have c1:(bif decide (x.kind=1)then decide (x.index<p.ar)else false)=false:=by
   by_cases k:x.kind=1
   ·rw [bx k,bt];exact jE (by omega)
   ·rw [bz k];rfl
  have c2:(bif decide (x.kind=2)then decide (x.index<(p.aa.length:Int))else false)=false:=by
   by_cases k:x.kind=2
   ·rw [bx k,bt];exact jE (by omega)
   ·rw [bz k];rfl
  have c3:(bif decide (x.kind=3)then decide (x.index<(p.aq.length:Int))else false)=false:=by
   by_cases k:x.kind=3
   ·rw [bx k,bt];exact jE (by omega)
   ·rw [bz k];rfl
  rw [c1,bu,c2,bu,c3,bu];rfl
end
def Z8 (l:List Bool):Nat->List Bool
 |0=>l
 |n+1=>(Z8 l n).set n (!(at' (Z8 l n) n))
theorem EX (l:List Bool): ∀n,(Z8 l n).length=l.length
 |0=>rfl
 |n+1=>by rw [Z8,cJ,EX l n]
theorem VT (l:List Bool) (h:l.length<=1000000):ay eZ FUEL (l,0)=some (.brk (Z8 l l.length)):=by
 refine aU (body:=eZ) (fun t=>(Z8 l t,(t:Int))) l.length _ (fuel_lt (by omega)) (fun t ht=> ?_) ?_
 ·have:=EX l t
  unfold eZ
  dsimp only
  rw [uM (by omega),bt,au (by omega),wr (by omega),bw];rfl
 ·have:=EX l l.length
  unfold eZ
  dsimp only
  rw [jE (by omega)];rfl
theorem Xy (l:List Bool) (h:l.length<=1000000):ay eO FUEL (l,0)=some (.brk (Z8 l l.length)):=by
 refine aU (body:=eO) (fun t=>(Z8 l t,(t:Int))) l.length _ (fuel_lt (by omega)) (fun t ht=> ?_) ?_
 ·have:=EX l t
  unfold eO
  dsimp only
  rw [uM (by omega),bt,au (by omega),wr (by omega),bw];rfl
 ·have:=EX l l.length
  unfold eO
  dsimp only
  rw [jE (by omega)];rfl
def partsOf (p:ah):List Part:=tab p.ar.toNat (fun b=> ⟨1,(b:Int)⟩)++tab p.aa.length (fun b=> ⟨2,(b:Int)⟩)++tab p.aq.length (fun b=> ⟨3,(b:Int)⟩)
theorem VH (p:ah) (t n:Nat) (ht:t<3) (hn:at' [p.ar,(p.aa.length:Int),(p.aq.length:Int)] t=(n:Int)) (hn2:n<=1000) (out:List Part) (ho:out.length<=10000):ay (kN p (t:Int)) FUEL (out,0)=some (.brk (out++tab n fun b=> ⟨(t:Int)+1,(b:Int)⟩)):=by
 have e0:out=out++tab 0 fun b=>(⟨(t:Int)+1,(b:Int)⟩:Part):=by simp [tab]
 have key:ay (kN p (t:Int)) FUEL (out++tab 0 (fun b=>(⟨(t:Int)+1,(b:Int)⟩:Part)),((0:Nat):Int))=some (.brk (out++tab n fun b=> ⟨(t:Int)+1,(b:Int)⟩)):=by
  refine aU (fun k=>(out++tab k (fun b=>(⟨(t:Int)+1,(b:Int)⟩:Part)),(k:Int))) n _ (fuel_lt (by omega)) (fun k hk=> ?_) ?_
  ·unfold kN
   dsimp only
   rw [bw,hn,uM (by omega),bt,au ⟨by rw [b_,aY,cw];omega,by rw [b_,aY,cw];omega⟩,wr (x:=(k:Int)+1) (by omega),wr (x:=(t:Int)+1) (by omega),EW,cS]
   rfl
  ·unfold kN
   dsimp only
   rw [bw,hn,jE (by omega)];rfl
 rw [<-e0]at key
 exact key
section
variable {p:ah} (hp:VP p)
include hp
theorem parts_eq:j4 p=some (partsOf p,0):=by
 have hb:=hp.b;have hsl:=hp.sl;have hll:=hp.ll
 unfold j4
 rw [Jb p hp.small,wN.mpr hp,bs,bx rfl,cD,bu]
 have key:ay (iV p) FUEL ([],0)=some (.brk (partsOf p)):=by
  refine jd (n:=4) ?_ (by unfold FUEL;omega)
  have r: ∀(t n:Nat) (out:List Part),t<3->at' [p.ar,(p.aa.length:Int),(p.aq.length:Int)] t=(n:Int)->n<=1000->out.length<=10000->iV p (out,(t:Int))=some (.next (out++tab n (fun b=> ⟨(t:Int)+1,(b:Int)⟩),((t+1:Nat):Int))):=fun t n out ht hn hn2 ho=>by
   unfold iV
   dsimp only
   have hl3:([p.ar,(p.aa.length:Int),(p.aq.length:Int)].length:Int)=3:=rfl
   rw [uM (by rw [hl3];omega),bt,au ⟨by omega,by rw [hl3];omega⟩,VH p t n ht hn hn2 out ho]
   simp only [bs]
   rw [wr (by omega)];rfl
  have r0:iV p ([],0)=_:=r 0 p.ar.toNat [] (by omega) (by show p.ar=_;omega) (by omega) (by simp)
  rw [bK,r0]
  show ay _ 3 ([]++tab p.ar.toNat (fun b=>(⟨((0:Nat):Int)+1,(b:Int)⟩:Part)),((1:Nat):Int))=_
  rw [bK,r 1 p.aa.length _ (by omega) rfl (by omega) (by simp [aY];omega)]
  show ay _ 2 (_,((2:Nat):Int))=_
  rw [bK,r 2 p.aq.length _ (by omega) rfl (by omega) (by simp [aY];omega)]
  show ay _ 1 (_,((3:Nat):Int))=_
  rw [bK]
  unfold iV
  dsimp only
  rw [bz (by show ¬ ((3:Nat):Int)<3;omega),bu]
  rfl
 rw [key];rfl
theorem Rp {i:Nat} (hi:i<(partsOf p).length): ∃(c j:Nat),at' (partsOf p) i=⟨(c:Int),(j:Int)⟩/\((c=1/\(j:Int)<p.ar)\/(c=2/\j<p.aa.length)\/(c=3/\j<p.aq.length)):=by
 have hb:=hp.b
 have hm:=at_mem hi
 unfold partsOf at hm
 rw [cz,cz]at hm
 have mt: ∀{n:Nat} {f:Nat->Part} {x:Part},x∈tab n f-> ∃j,j<n/\x=f j:=fun{n f x} h=>by
  obtain⟨j,hj,e⟩:=List.mem_map.1 h
  exact⟨j,c7.1 hj,e.symm⟩
 rcases hm with(h|h)|h
 ·obtain⟨j,hj,e⟩:=mt h
  exact⟨1,j,e, .inl ⟨rfl,by omega⟩⟩
 ·obtain⟨j,hj,e⟩:=mt h
  exact⟨2,j,e, .inr (.inl ⟨rfl,hj⟩)⟩
 ·obtain⟨j,hj,e⟩:=mt h
  exact⟨3,j,e, .inr (.inr ⟨rfl,hj⟩)⟩
end
theorem Jj (l:List Part) (h:l.length<=1000000):jK l l=some true:=by
 have key:ay (lH l l) FUEL 0=some (.brk ()):=by
  refine EQ l (by omega) (fun t ht=> ?_) ?_
  ·unfold lH
   rw [uM (by omega),bt,au ⟨by omega,by omega⟩,wr (by omega)]
   simp
  ·unfold lH
   rw [jE (by omega)];rfl
 unfold jK
 simp [key]
theorem QJ {p:ah} (hp:Small p): ∃l e,j4 p=some (l,e)/\o8 p=some (l,e)/\l.length<=1000000:=by
 by_cases h0:pX p=0
 ·have hv:=wN.mp h0
  have hb:=hv.b;have hsl:=hv.sl;have hll:=hv.ll
  refine⟨partsOf p,0,parts_eq hv, ?_,by simp [partsOf,aY];omega⟩
  unfold o8
  rw [wW p hp,h0,bs,bx (rfl:(0:Int)=0),cD,bu]
  have L0:ay (iR p) FUEL (tab 0 (fun j=>(⟨1,j⟩:Part)),((0:Nat):Int))=some (.brk (tab p.ar.toNat (fun j=>(⟨1,j⟩:Part)))):=by
   refine aU (body:=iR p) (fun t=>(tab t (fun j=>(⟨1,j⟩:Part)),(t:Int))) p.ar.toNat _ (fuel_lt (by omega)) (fun t ht=> ?_) ?_
   ·unfold iR
    dsimp only
    rw [uM (by omega),bt,au ⟨by rw [aY];simp;omega,by rw [aY];simp;omega⟩,wr (by omega),EW]
    rfl
   ·unfold iR
    dsimp only
    rw [jE (by omega)];rfl
  have L1: ∀o:List Part,o.length<=1000->ay (kZ p) FUEL (o++tab 0 (fun j=>(⟨2,j⟩:Part)),((0:Nat):Int))=some (.brk (o++tab p.aa.length (fun j=>(⟨2,j⟩:Part)))):=by
   intro o ho
   refine aU (body:=kZ p) (fun t=>(o++tab t (fun j=>(⟨2,j⟩:Part)),(t:Int))) p.aa.length _ (fuel_lt (by omega)) (fun t ht=> ?_) ?_
   ·unfold kZ
    dsimp only
    rw [uM (by omega),bt,au ⟨by rw [b_,aY];simp;omega,by rw [b_,aY];simp;omega⟩,wr (by omega),EW,cS]
    rfl
   ·unfold kZ
    dsimp only
    rw [jE (by omega)];rfl
  have L2: ∀o:List Part,o.length<=1000->ay (kX p) FUEL (o++tab 0 (fun j=>(⟨3,j⟩:Part)),((0:Nat):Int))=some (.brk (o++tab p.aq.length (fun j=>(⟨3,j⟩:Part)))):=by
   intro o ho
   refine aU (body:=kX p) (fun t=>(o++tab t (fun j=>(⟨3,j⟩:Part)),(t:Int))) p.aq.length _ (fuel_lt (by omega)) (fun t ht=> ?_) ?_
   ·unfold kX
    dsimp only
    rw [uM (by omega),bt,au ⟨by rw [b_,aY];simp;omega,by rw [b_,aY];simp;omega⟩,wr (by omega),EW,cS]
    rfl
   ·unfold kX
    dsimp only
    rw [jE (by omega)];rfl
  have L0':ay (iR p) FUEL ([],0)=_:=L0
  rw [L0',bs]
  dsimp only
  have L1':=L1 (tab p.ar.toNat (fun j=>(⟨1,j⟩:Part))) (by rw [aY];omega)
  rw [show tab 0 (fun j=>(⟨2,j⟩:Part))=[]from rfl,cX]at L1'
  rw [show((0:Nat):Int)=0 from rfl]at L1'
  rw [L1',bs]
  dsimp only
  have L2':=L2 (tab p.ar.toNat (fun j=>(⟨1,j⟩:Part))++tab p.aa.length (fun j=>(⟨2,j⟩:Part))) (by rw [b_,aY,aY];omega)
  rw [show tab 0 (fun j=>(⟨3,j⟩:Part))=[]from rfl,cX]at L2'
  rw [show((0:Nat):Int)=0 from rfl]at L2'
  rw [L2',bs]
  unfold partsOf
  first|rfl|rw [cS]
 ·have d:(!decide (pX p=0))=true:=by rw [bz h0];rfl
  exact⟨[],pX p,by unfold j4;rw [Jb p hp,bs,d,bt],by unfold o8;rw [wW p hp,bs,d,bt],by simp⟩
theorem tQ:fZ=some true:=by kernel_rfl
def eG (p:ah) (s:State):List Bool:=((dU p s).getD default).1
section
variable {p:ah} {s:State} (hp:VP p) (hs:VS p s)
include hp hs
theorem BP:dU p s=some (eG p s,0):=by
 obtain⟨L,h,_⟩:=HY hp hs
 unfold eG;rw [h];rfl
theorem oO:((eG p s).length:Int)=p.ar:=by
 obtain⟨L,h,h1,_⟩:=HY hp hs
 unfold eG;rw [h];exact h1
theorem Am {b:Nat} (hb:(b:Int)<p.ar):at' (eG p s) b=true↔sV p s b:=by
 obtain⟨L,h,_,h2⟩:=HY hp hs
 unfold eG;rw [h];exact h2 b hb
theorem Iu:dR p s=some (J7 p s,0):=(Il hp hs).1
theorem uI:(J7 p s).length<=100000:=by
 have hb:=hp.b;have hsl:=hp.sl
 have hrl:=Fs (p:=p) (s:=s) p.ar.toNat
 have hlen:(dW p s p.ar.toNat p.aa.length).length=(rts p s p.ar.toNat).length:=by simp [dW]
 have hl8: ∀t,t<(dW p s p.ar.toNat p.aa.length).length->(at' (dW p s p.ar.toNat p.aa.length) t).aa.length<=8:=fun t ht=>by
  have e:(at' (dW p s p.ar.toNat p.aa.length) t).aa=sG p s p.aa.length (at' (rts p s p.ar.toNat) t):=by unfold dW;rw [vS (by omega)]
  rw [e];have:=I9 (p:=p) (s:=s) p.aa.length (at' (rts p s p.ar.toNat) t);omega
 unfold J7 Oo
 rw [List.length_mergeSort]
 have hA:=jk (f:=fun t=>oV p (at' (dW p s p.ar.toNat p.aa.length) t).aa) (n:=(dW p s p.ar.toNat p.aa.length).length) (m:=64) fun i hi=>D5 _ _ (hl8 i hi)
 have:(dW p s p.ar.toNat p.aa.length).length*64<=24*64:=cH 64 (by omega)
 omega
end
def yh (p:ah) (i:Int):Bool:=bif (bif (decide (0<=i))then(decide (i<(p.aq.length:Int)))else false)then(!decide (((at' p.aq i.toNat).kind)=1))else false
theorem WE (p:ah) (i x1:Int):fo i x1 p.aa p.aq p.a_=some (yh p i):=by
 unfold fo yh
 rw [au (fun h=>by
  by_cases h1:0<=i<;>by_cases h2:i<(p.aq.length:Int)
  ·exact⟨h1,h2⟩
  all_goals (exfalso;revert h;simp [gB,h1,h2]))]
theorem yC {p:ah} {i:Int}:yh p i=true↔0<=i/\i<(p.aq.length:Int)/\(at' p.aq i.toNat).kind≠1:=by
 unfold yh
 by_cases h1:0<=i<;>by_cases h2:i<(p.aq.length:Int)<;>simp [h1,h2]
def J8 (p:ah) (x:Transfer):Bool:= !(bif (bif (bif (decide (x.bh<0))then true else(decide (p.ar<=x.bh)))then true else(!yh p x.close))then true else(bif (!decide (x.open_=(-1)))then(bif (!yh p x.open_)then true else(decide (x.open_=x.close)))else false))
theorem Xk (p:ah) (x:Transfer):gT x p.ar p.aa p.aq p.a_ p.ar p.aa p.aq p.a_=some (!J8 p x):=by
 unfold gT J8
 simp only [WE]
 generalize decide (x.bh<0)=b1
 generalize decide (p.ar<=x.bh)=b2
 generalize yh p x.close=b3
 generalize decide (x.open_= -1)=b4
 generalize yh p x.open_=b5
 generalize decide (x.open_=x.close)=b6
 cases b1<;>cases b2<;>cases b3<;>cases b4<;>cases b5<;>cases b6<;>rfl
structure Vk (p:ah) (x:Transfer):Prop where
 bh:0<=x.bh/\x.bh<p.ar
 close:yh p x.close=true
 open_:x.open_= -1\/yh p x.open_=true/\x.open_≠x.close
theorem RN {p:ah} {x:Transfer}:J8 p x=true↔Vk p x:=by
 have key:J8 p x=(!decide (x.bh<0) && (!decide (p.ar<=x.bh) && (yh p x.close && (decide (x.open_= -1)||(yh p x.open_ && !decide (x.open_=x.close)))))):=by
  unfold J8
  generalize decide (x.bh<0)=b1
  generalize decide (p.ar<=x.bh)=b2
  generalize yh p x.close=b3
  generalize decide (x.open_= -1)=b4
  generalize yh p x.open_=b5
  generalize decide (x.open_=x.close)=b6
  cases b1<;>cases b2<;>cases b3<;>cases b4<;>cases b5<;>cases b6<;>rfl
 rw [key]
 simp only [cd,da,cP,db,dc]
 exact⟨fun⟨a,b,c,d⟩=> ⟨by omega,c,d⟩,fun⟨a,b,c⟩=> ⟨by omega,by omega,b,c⟩⟩
def FD (p:ah) (s:State) (l:List Transfer):Int:=bif !decide (rD p s=0)then rD p s else bif (bif decide (16<(l.length:Int))then true else l.any fun x=> !J8 p x)then 1 else 0
theorem vH (p:ah) (s:State) (l:List Transfer) (hp:Small p) (hl:l.length<=9223372036854775807):dI p s l=some (FD p s l):=by
 have hc:gU l p.ar p.aa p.aq p.a_ p.ar p.aa p.aq p.a_=some (l.any fun x=> !J8 p x):=by
  unfold gU mI
  rw [pQ l (fun x=> !J8 p x) id hl (fun i hi=> ?_) ?_]
  ·rw [<-qg];cases l.findIdx? fun x=> !J8 p x<;>rfl
  ·unfold kC;simp
  ·unfold kC
   rw [bw,Xk]
   exact qj hi hl _ id _
 unfold dI FD
 rw [pI p s hp,bs,hc]
 by_cases h0:rD p s=0
 ·rw [bx h0,cD,bu,bu]
  generalize l.any (fun x=> !J8 p x)=b2
  cases decide (16<(l.length:Int))<;>cases b2<;>rfl
 ·rw [bz h0];rfl
theorem nD {p:ah} {s:State} {l:List Transfer}:FD p s l=0↔VP p/\VS p s/\l.length<=16/\ ∀x∈l,Vk p x:=by
 unfold FD
 by_cases h0:rD p s=0
 ·rw [bx h0,cD,bu]
  have hv:=iO.mp h0
  by_cases hl:16<(l.length:Int)
  ·rw [bx hl,bt,bt]
   exact⟨fun h=>absurd h (by decide),fun h=>absurd h.2.2.1 (by omega)⟩
  ·rw [bz hl,bu]
   cases ha:l.any fun x=> !J8 p x with
   |true=>
    obtain⟨x,hx,hb⟩:=c8.1 ha
    refine⟨fun h=>absurd h (by decide),fun h=> ?_⟩
    rw [RN.2 (h.2.2.2 x hx)]at hb;cases hb
   |false=>
    refine⟨fun _=> ⟨hv.1,hv.2,by omega,fun x hx=> ?_⟩,fun _=>rfl⟩
    have:=c9.1 ha x hx
    exact RN.1 (by simpa using this)
 ·rw [bz h0]
  exact⟨fun h=>absurd h h0,fun h=>absurd (iO.mpr ⟨h.1,h.2.1⟩) h0⟩
def GY (s:State) (x:Transfer):List Bool:=if 0<=x.open_ then(s.ap.set x.close.toNat true).set x.open_.toNat false else s.ap.set x.close.toNat true
def oW (s:State) (x:Transfer):State:=⟨GY s x,s.aw,s.ag,s.on_,s.ae,s.am,s.al⟩
theorem Ww (s:State) (x:Transfer):(GY s x).length=s.ap.length:=by unfold GY;split<;>simp
theorem VS.new {p:ah} {s:State} (hs:VS p s) {x:Transfer} (hx:Vk p x):VS p (oW s x):=by
 refine⟨(Ww s x).trans hs.ap,hs.aw,hs.ag,hs.on,hs.ae,hs.am,hs.al,fun i hi hk=> ⟨?_,(hs.cable i hi hk).2⟩⟩
 have hc:=(hs.cable i hi hk).1
 have h1:i≠x.close.toNat:=fun e=>(yC.1 hx.close).2.2 (e ▸ hk)
 show at' (GY s x) i=true
 unfold GY
 split
 ·rcases hx.open_ with h|⟨h,_⟩
  ·omega
  ·have h2:i≠x.open_.toNat:=fun e=>(yC.1 h).2.2 (e ▸ hk)
   rw [bM (Ne.symm h2),bM (Ne.symm h1)];exact hc
 ·rw [bM (Ne.symm h1)];exact hc
def Yn (s:State) (L:List Bool) (x:Transfer):Bool:=bif (bif (bif (bif (at' s.al x.bh.toNat)then true else(at' L x.bh.toNat))then true else(at' s.ap x.close.toNat))then true else(at' s.ag x.close.toNat))then true else(at' s.aw x.close.toNat)
def Zv (s:State) (x:Transfer):Bool:=bif (at' s.ag x.open_.toNat)then true else(at' s.aw x.open_.toNat)
def tL (L A E:List Bool) (b:Nat):Bool:=bif (bif (at' L b)then(!(at' A b))else false)then true else(bif (bif (at' A b)then(at' E b)else false)then(!(at' L b))else false)
def Kc (x y:ai):Bool:=(decide (x.e0=y.e0)) && ((decide (x.e1=y.e1)) && true)
theorem Eg {x y:ai}:Kc x y=true↔x=y:=by
 unfold Kc
 simp only [Bool.and_true,cd,dc]
 exact⟨fun h=>by cases x;cases y;simp only at h;rw [h.1,h.2],fun h=>by rw [h];exact⟨rfl,rfl⟩⟩
def Ll (p:ah) (s t:State) (x:Transfer):Bool:= !((List.range (eG p t).length).any (tL (eG p s) (eG p t) s.am)) && (at' (eG p t) x.bh.toNat && !((J7 p t).any fun c=> !((J7 p s).any (Kc c))))
def Hf (p:ah) (s:State) (x:Transfer):Bool:= !Yn s (eG p s) x && ((!decide (0<=x.open_)|| !Zv s x) && Ll p s (oW s x) x)
theorem Uh (l:List ai) (v:ai) (hl:l.length<=9223372036854775807):mR l v=some (l.any (Kc v)):=by
 unfold mR vU
 rw [pQ l (Kc v) id hl (fun i hi=> ?_) ?_]
 ·rw [<-qg];cases l.findIdx? (Kc v)<;>rfl
 ·unfold qM;simp
 ·unfold qM
  rw [bw]
  have h1:decide ((i:Int)<(l.length:Int))=true:=bx (by omega)
  rw [h1,bt,au (by omega),wr (by omega)]
  exact Br _ _ _
theorem O5 (a b:List ai) (ha:a.length<=9223372036854775807) (hb:b.length<=9223372036854775807):dD a b=some (a.any fun c=> !(b.any (Kc c))):=by
 unfold dD mM
 rw [pQ a (fun c=> !(b.any (Kc c))) id ha (fun i hi=> ?_) ?_]
 ·rw [<-qg];cases a.findIdx? fun c=> !(b.any (Kc c))<;>rfl
 ·unfold ko;simp
 ·unfold ko sS
  rw [bw,Uh b _ hb,bs]
  exact qj hi ha _ id _
theorem NG (s:State) (L A:List Bool) (e1 e2:Int) (hL:L.length=A.length) (hE:s.am.length=A.length) (hA:A.length<=1000):
  ay (iW s (L,e1) (A,e2)) FUEL 0=some (match(List.range A.length).find? (tL L A s.am)with|some _=> .ret (s,false)|none=> .brk ()):=by
 refine fE A.length (tL L A s.am) (fun _=>(s,false)) (by omega) (fun i hi=> ?_) ?_
 ·unfold iW
  dsimp only
  rw [uM (by omega),bt,au ⟨by omega,fun _=>by omega,fun _=>by omega,fun _=>by omega,fun _=>by omega⟩,bw,wr (by omega)]
  exact Br _ _ _
 ·unfold iW
  dsimp only
  rw [jE (by omega)];rfl
section
variable {p:ah} {s t:State} (hp:VP p) (hs:VS p s) (ht:VS p t)
include hp hs ht
theorem OX {x:Transfer} (hx:Vk p x) (he:t.am=s.am):
  ((dU p t).bind fun r_2=>
   Option.bind (ay (iW s (eG p s,0) r_2) FUEL (0)) fun o=>match o with
   | .ret v=>some v
   | .brk _=>
   (dR p s).bind fun r_3=>
   (dR p t).bind fun r_4=>
   (bif gB [(!(at' r_2.1 x.bh.toNat),false)]then dD r_4.1 r_3.1 else some default).bind fun r_5=>
   bg ((0:Int)<=x.bh/\x.bh<(r_2.1.length:Int)) (
   bif (bif (!(at' r_2.1 x.bh.toNat))then true else r_5)then
   some (s,false)
   else
   some (t,true)))=some (bif Ll p s t x then(t,true)else(s,false)):=by
 have hb:=hp.b
 have l1:=oO hp hs;have l2:=oO hp ht;have l3:=hs.am
 have c1:=uI hp hs;have c2:=uI hp ht
 obtain⟨w1,w2⟩:=hx.bh
 rw [BP hp ht,bs,NG s (eG p s) (eG p t) 0 0 (by omega) (by omega) (by omega),bs]
 unfold Ll
 have hf:=uV (tL (eG p s) (eG p t) s.am) (List.range (eG p t).length)
 cases hq:(List.range (eG p t).length).find? (tL (eG p s) (eG p t) s.am)with
 |some k=>
  rw [hq]at hf
  rw [<-hf];rfl
 |none=>
  rw [hq]at hf
  rw [<-hf]
  dsimp only
  rw [Iu hp hs,bs,Iu hp ht,bs]
  dsimp only
  rw [O5 _ _ (by omega) (by omega)]
  generalize (J7 p t).any (fun c=> !((J7 p s).any (Kc c)))=b2
  cases at' (eG p t) x.bh.toNat with
  |false=>
   show bg _ _=_
   rw [au ⟨by omega,by omega⟩];rfl
  |true=>
   show bg _ _=_
   rw [au ⟨by omega,by omega⟩];cases b2<;>rfl
omit ht in
theorem VX {x:Transfer} (hx:Vk p x):pq p s x=some (bif Hf p s x then(oW s x,true)else(s,false)):=by
 have hb:=hp.b;have hll:=hp.ll
 have l1:=oO hp hs;have l2:=hs.al;have l3:=hs.ap;have l4:=hs.ag;have l5:=hs.aw
 obtain⟨w1,w2⟩:=hx.bh
 obtain⟨c1,c2,_⟩:=yC.1 hx.close
 have hn:=hs.new hx
 unfold pq
 rw [BP hp hs,bs]
 dsimp only
 rw [au ⟨⟨by omega,by omega⟩,fun _=> ⟨by omega,by omega⟩,fun _=> ⟨by omega,by omega⟩,fun _=> ⟨by omega,by omega⟩,fun _=> ⟨by omega,by omega⟩⟩]
 unfold Hf
 show(bif Yn s (eG p s) x then _ else _)=_
 cases hA:Yn s (eG p s) x with
 |true=>rfl
 |false=>
  rw [bu,ji _ (by omega),bs,au ⟨by omega,by omega⟩]
  by_cases ho:0<=x.open_
  ·have hm:yh p x.open_=true:=by
    rcases hx.open_ with h|h
    ·omega
    ·exact h.1
   obtain⟨o1,o2,_⟩:=yC.1 hm
   rw [bx ho,bt,au ⟨⟨by omega,by omega⟩,fun _=> ⟨by omega,by omega⟩⟩]
   show(bif Zv s x then _ else _)=_
   cases hO:Zv s x with
   |true=>rfl
   |false=>
    rw [bu,au ⟨by omega,by rw [cJ];omega⟩]
    have e:oW s x=⟨(s.ap.set x.close.toNat true).set x.open_.toNat false,s.aw,s.ag,s.on_,s.ae,s.am,s.al⟩:=by unfold oW GY;rw [ci ho]
    have:=OX hp hs hn hx rfl
    rw [e]at this ⊢
    exact this
  ·rw [bz ho,bu,show xQ=iW from rfl]
   have e:oW s x=⟨s.ap.set x.close.toNat true,s.aw,s.ag,s.on_,s.ae,s.am,s.al⟩:=by unfold oW GY;rw [ce ho]
   have:=OX hp hs hn hx rfl
   rw [e]at this ⊢
   exact this
end
def cntF (d:List Bool):Nat:=d.countP (fun b=> !b)
theorem Bj: ∀(d:List Bool) (i:Nat),i<d.length->at' d i=false->cntF (d.set i true)+1=cntF d
 |b::d,0,_,h=>by
  have h:b=false:=h
  subst h
  simp [cntF]
 |b::d,i+1,hi,h=>by
  have ih:=Bj d i (by simpa using hi) h
  unfold cntF at ih ⊢
  rw [List.set_cons_succ,List.countP_cons,List.countP_cons]
  omega
theorem RP (d:List Bool):cntF d<=d.length:=List.countP_le_length
def qG (p:ah) (s:State) (l:List Transfer) (d:List Bool):Option Nat:=(List.range l.length).find? fun i=> !at' d i && Hf p s (at' l i)
theorem vz {p:ah} {s:State} {l:List Transfer} {d:List Bool} {i:Nat} (h:qG p s l d=some i):i<l.length/\at' d i=false/\Hf p s (at' l i)=true:=by
 have h1:=c7.1 (List.mem_of_find?_eq_some h)
 have h2:=List.find?_some h
 simp only [cd,da]at h2
 exact⟨h1,h2⟩
def wZ (p:ah) (l:List Transfer):Nat->State->List Int->List Bool->State × List Int × List Bool
 |0,s,o,d=>(s,o,d)
 |n+1,s,o,d=>match qG p s l d with
  |none=>(s,o,d)
  |some i=>wZ p l n (oW s (at' l i)) (o++[(i:Int)]) (d.set i true)
def oQ (s:State) (c:List Bool):State:=⟨c,s.aw,s.ag,s.on_,s.ae,s.am,s.al⟩
section
variable {p:ah} {l:List Transfer} (hp:VP p) (hl:l.length<=16) (hx: ∀x∈l,Vk p x)
include hp hl hx
theorem MS {s:State} {c:List Bool} (hs:VS p (oQ s c)) {o:List Int} {d:List Bool} (hd:d.length=l.length) (ho:o.length<=1000):
  ay (kG l p.ar p.aa p.aq p.a_ s c o d) FUEL 0=some (match qG p (oQ s c) l d with|some i=> .ret (.next (GY (oQ s c) (at' l i),o++[(i:Int)],d.set i true))|none=> .brk ()):=by
 refine fE l.length (fun i=> !at' d i && Hf p (oQ s c) (at' l i)) (fun i=>aH.next (GY (oQ s c) (at' l i.toNat),o++[i],d.set i.toNat true)) (by omega) (fun i hi=> ?_) ?_
 ·have ha:=VX hp hs (hx _ (at_mem hi))
  have ha':pq ⟨p.ar,p.aa,p.aq,p.a_⟩ ⟨c,s.aw,s.ag,s.on_,s.ae,s.am,s.al⟩ (at' l i)=some (bif Hf p (oQ s c) (at' l i)then(oW (oQ s c) (at' l i),true)else(oQ s c,false)):=ha
  unfold kG
  rw [uM (by omega),bt,au (by omega),au (by omega),bw,wr (by omega),ha']
  cases at' d i with
  |true=>rfl
  |false=>
   cases Hf p (oQ s c) (at' l i)with
   |false=>rfl
   |true=>
    rw [bu,bs]
    rw [bt,au (by omega)]
    unfold oZ
    rw [au ⟨by rw [cw];omega,by rw [cw];omega⟩]
    rfl
 ·unfold kG
  rw [jE (by omega)];rfl
theorem ES {s:State} {c:List Bool} (hs:VS p (oQ s c)) {o:List Int} {d:List Bool} (hd:d.length=l.length) (ho:o.length<=1000):
  kI l p.ar p.aa p.aq p.a_ s (c,o,d)=some (match qG p (oQ s c) l d with|some i=> .next (GY (oQ s c) (at' l i),o++[(i:Int)],d.set i true)|none=> .done (.brk (c,o))):=by
 unfold kI
 dsimp only
 rw [MS hp hl hx hs hd ho]
 cases qG p (oQ s c) l d<;>rfl
theorem Gq (s:State): ∀(n:Nat) (c:List Bool) (o:List Int) (d:List Bool),VS p (oQ s c)->d.length=l.length->cntF d<=n->o.length+n<=1000->
  ay (kI l p.ar p.aa p.aq p.a_ s) (n+1) (c,o,d)=some (.brk ((wZ p l n (oQ s c) o d).1.ap,(wZ p l n (oQ s c) o d).2.1))
 |0,c,o,d,hs,hd,hn,ho=>by
  rw [bK,ES hp hl hx hs hd (by omega)]
  cases h:qG p (oQ s c) l d with
  |none=>rfl
  |some i=>
   obtain⟨h1,h2,_⟩:=vz h
   have:=Bj d i (by omega) h2
   omega
 |n+1,c,o,d,hs,hd,hn,ho=>by
  rw [bK,ES hp hl hx hs hd (by omega)]
  unfold wZ
  cases h:qG p (oQ s c) l d with
  |none=>rfl
  |some i=>
   obtain⟨h1,h2,_⟩:=vz h
   have:=Bj d i (by omega) h2
   exact Gq s n _ _ _ (hs.new (hx _ (at_mem h1))) (by rw [cJ];exact hd) (by omega) (by rw [b_,cw];omega)
end
theorem JF (p:ah) (l:List Transfer) (s:State): ∀(n:Nat) (c:List Bool) (o:List Int) (d:List Bool),(wZ p l n (oQ s c) o d).1=oQ s (wZ p l n (oQ s c) o d).1.ap
 |0,_,_,_=>rfl
 |n+1,c,o,d=>by
  unfold wZ
  cases qG p (oQ s c) l d with
  |none=>rfl
  |some i=>exact JF p l s n _ _ _
def Aq (p:ah) (s:State) (l:List Transfer):State × List Int × List Bool:=wZ p l l.length s [] (List.replicate l.length false)
theorem QL (s:State) (h:Ev s):qp s=some s:=by
 obtain⟨h0,h1,h2,h3,h4,h5,h6⟩:=h
 unfold qp
 rw [ji _ h0,ji _ h1,ji _ h2,ji _ h3,ji _ h4,ji _ h5,ji _ h6]
 rfl
def noS:State:=⟨[],[],[],[],[],[],[]⟩
theorem LC (p:ah) (s:State) (l:List Transfer) (hp:Small p) (hl:l.length<=9223372036854775807):
  bG p s l=some (if FD p s l=0 then((Aq p s l).1,(Aq p s l).2.1,0)else(noS,[],FD p s l)):=by
 unfold bG
 rw [vH p s l hp hl,bs]
 by_cases h0:FD p s l=0
 ·obtain⟨hv,hs,h16,hx⟩:=nD.1 h0
  rw [bx h0,cD,bu,QL s (hs.room hv),bs,ci h0]
  unfold qD
  rw [bs]
  dsimp only
  unfold rJ
  rw [au ⟨by omega,by omega,by omega⟩,bs,bw]
  have key:=Gq hv h16 hx s l.length s.ap [] (List.replicate l.length false) hs (by simp) (by have:=RP (List.replicate l.length false);rw [dj]at this;exact this) (by simp;omega)
  rw [jd key (by unfold FUEL;omega),bs,bs]
  congr 2
  exact(JF p l s l.length s.ap [] (List.replicate l.length false)).symm
 ·rw [bz h0,ce h0];rfl
structure SI (p:ah) (s0:State) (l:List Transfer) (s:State) (o:List Int) (d:List Bool):Prop where
 vs:VS p s
 earth:s.am=s0.am
 live: ∀b:Nat,(b:Int)<p.ar->sV p s0 b->sV p s b
 dead: ∀b:Nat,(b:Int)<p.ar->sV p s b->at' s0.am b=true->sV p s0 b
 clash: ∀c,c∈J7 p s->c∈J7 p s0
 dl:d.length=l.length
 ord: ∀i,i<l.length->(at' d i=true↔(i:Int)∈o)
 rng: ∀x∈o,∃i:Nat,x=(i:Int)/\i<l.length
 nodup:o.Nodup
 bh: ∀i:Nat,i<l.length->(i:Int)∈o->sV p s (at' l i).bh.toNat
section
variable {p:ah} {s0:State} {l:List Transfer} (hp:VP p) (hx: ∀x∈l,Vk p x)
include hp hx
omit hx in
theorem TB {s t:State} {x:Transfer} (hs:VS p s) (ht:VS p t) (h:Ll p s t x=true):(∀b:Nat,(b:Int)<p.ar->sV p s b->sV p t b)/\(∀b:Nat,(b:Int)<p.ar->sV p t b->at' s.am b=true->sV p s b)/\at' (eG p t) x.bh.toNat=true/\ ∀c,c∈J7 p t->c∈J7 p s:=by
 unfold Ll at h
 simp only [cd,da]at h
 obtain⟨h1,h2,h3⟩:=h
 have l1:=oO hp hs;have l2:=oO hp ht
 have hu: ∀b:Nat,(b:Int)<p.ar->tL (eG p s) (eG p t) s.am b=false:=fun b hb=>by
  have:=c9.1 h1 b (c7.2 (by omega))
  simpa using this
 refine⟨fun b hb hL=> ?_,fun b hb hA hE=> ?_,h2,fun c hc=> ?_⟩
 ·have:=hu b hb
  rw [<-Am hp hs hb]at hL
  rw [<-Am hp ht hb]
  unfold tL at this
  rw [hL]at this
  cases hA:at' (eG p t) b with
  |true=>rfl
  |false=>rw [hA]at this;cases this
 ·have:=hu b hb
  rw [<-Am hp ht hb]at hA
  rw [<-Am hp hs hb]
  unfold tL at this
  rw [hA,hE]at this
  cases hL:at' (eG p s) b with
  |true=>rfl
  |false=>rw [hL]at this;cases this
 ·have:=c9.1 h3 c hc
  simp only [Bool.not_eq_true,Bool.not_eq_false']at this
  obtain⟨y,hy,e⟩:=c8.1 this
  rw [Eg.1 e];exact hy
theorem SI.step {s:State} {o:List Int} {d:List Bool} (g:SI p s0 l s o d) {i:Nat} (hn:qG p s l d=some i):SI p s0 l (oW s (at' l i)) (o++[(i:Int)]) (d.set i true):=by
 obtain⟨hi,hd,hc⟩:=vz hn
 have hxi:=hx _ (at_mem hi)
 have hvn:=g.vs.new hxi
 unfold Hf at hc
 simp only [cd]at hc
 obtain⟨t1,t2,t3,t4⟩:=TB hp g.vs hvn hc.2.2
 have hno:(i:Int) ∉ o:=fun h=>by rw [(g.ord i hi).2 h]at hd;cases hd
 refine⟨hvn,g.earth,fun b hb h=>t1 b hb (g.live b hb h),fun b hb h he=>g.dead b hb (t2 b hb h (by rw [g.earth];exact he)) he,fun c hc=>g.clash c (t4 c hc),by rw [cJ];exact g.dl,fun j hj=> ?_,fun x hx=> ?_, ?_,fun j hj hm=> ?_⟩
 ·rw [cz,cF,<-g.ord j hj]
  have hdl:=g.dl
  by_cases e:i=j
  ·subst e;rw [bU (by omega)];simp
  ·rw [bM e]
   exact⟨.inl,fun h=>h.elim id fun h=>absurd (by omega) e⟩
 ·rcases cz.1 hx with h|h
  ·exact g.rng x h
  ·exact⟨i,cF.1 h,hi⟩
 ·rw [List.nodup_append]
  exact⟨g.nodup,by simp,fun a ha b hb e=>by rw [cF]at hb;subst hb;subst e;exact hno ha⟩
 ·have hw: ∀j,j<l.length->0<=(at' l j).bh/\(at' l j).bh<p.ar:=fun j hj=>(hx _ (at_mem hj)).bh
  have:=hw j hj
  rcases cz.1 hm with h|h
  ·exact t1 _ (by omega) (g.bh j hj h)
  ·have e:j=i:=by have:=cF.1 h;omega
   subst e
   exact(Am hp hvn (by omega)).1 t3
theorem SI.run: ∀(n:Nat) {s:State} {o:List Int} {d:List Bool},SI p s0 l s o d->cntF d<=n->SI p s0 l (wZ p l n s o d).1 (wZ p l n s o d).2.1 (wZ p l n s o d).2.2/\qG p (wZ p l n s o d).1 l (wZ p l n s o d).2.2=none
 |0,s,o,d,g,hn=>by
  refine⟨g, ?_⟩
  show qG p s l d=none
  cases h:qG p s l d with
  |none=>rfl
  |some i=>
   obtain⟨h1,h2,_⟩:=vz h
   have:=Bj d i (by rw [g.dl];exact h1) h2
   omega
 |n+1,s,o,d,g,hn=>by
  unfold wZ
  cases h:qG p s l d with
  |none=>exact⟨g,h⟩
  |some i=>
   obtain⟨h1,h2,_⟩:=vz h
   have:=Bj d i (by rw [g.dl];exact h1) h2
   exact SI.run n (g.step hp hx h) (by omega)
omit hx in
theorem SI.init (hs:VS p s0):SI p s0 l s0 [] (List.replicate l.length false):=
 ⟨hs,rfl,fun _ _ h=>h,fun _ _ h _=>h,fun _ h=>h,by simp,fun i hi=>by rw [jZ hi];simp,fun _ h=>(by cases h),List.nodup_nil,fun _ _ h=>(by cases h)⟩
theorem Ps (hs:VS p s0):SI p s0 l (Aq p s0 l).1 (Aq p s0 l).2.1 (Aq p s0 l).2.2/\qG p (Aq p s0 l).1 l (Aq p s0 l).2.2=none:=
 SI.run hp hx l.length (SI.init hp hs) (by have:=RP (List.replicate l.length false);rw [dj]at this;exact this)
end
theorem NT {ρ:Type} {body:Int->Option (aH Int ρ)} (n:Nat) (bad:Nat->Bool) (F:Nat->ρ) (z:ρ) (hl:n<=9223372036854775807)
  (hb: ∀i:Nat,i<n->body i=some (bif bad i then .done (F i)else .next ((i:Int)+1))) (he:body n=some (.done z)):
  ay body FUEL 0=some (match(List.range n).find? bad with|some i=>F i|none=>z):=by
 cases h:(List.range n).find? bad with
 |none=>
  rw [List.find?_eq_none]at h
  refine aU (fun i=>(i:Int)) n _ (fuel_lt (by omega)) (fun i hi=> ?_) he
  rw [hb i hi]
  have:=h i (List.mem_range.mpr hi)
  simp at this;simp [this]
 |some k=>
  rw [List.find?_range_eq_some]at h
  obtain⟨hp,hk,hn⟩:=h
  have hk:=c7.1 hk
  refine aU (fun i=>(i:Int)) k _ (fuel_lt (by omega)) (fun i hi=> ?_) ?_
  ·rw [hb i (by omega)]
   have:=hn i hi
   simp at this;simp [this]
  ·rw [hb k hk,hp];rfl
theorem Pg (p:ah) (i:Int):o9 p i=some (yh p i):=by
 unfold o9 yh
 rw [au (fun h=>by
  by_cases h1:0<=i<;>by_cases h2:i<(p.aq.length:Int)
  ·exact⟨h1,h2⟩
  all_goals (exfalso;revert h;simp [gB,h1,h2]))]
theorem O9 (p:ah) (l:List Transfer) (hl:l.length<=1000):ay (gy p l) FUEL 0=some (match(List.range l.length).find? (fun i=> !J8 p (at' l i))with|some _=> .ret 1|none=> .brk ()):=by
 refine fE l.length (fun i=> !J8 p (at' l i)) (fun _=>(1:Int)) (by omega) (fun i hi=> ?_) ?_
 ·unfold gy
  rw [uM (by omega),bt,au (by omega),bw,wr (by omega)]
  simp only [Pg]
  generalize at' l i=x
  unfold J8
  generalize decide (x.bh<0)=b1
  generalize decide (p.ar<=x.bh)=b2
  generalize yh p x.close=b3
  generalize decide (x.open_= -1)=b4
  generalize yh p x.open_=b5
  generalize decide (x.open_=x.close)=b6
  cases b1<;>cases b2<;>cases b3<;>cases b4<;>cases b5<;>cases b6<;>rfl
 ·unfold gy
  rw [jE (by omega)];rfl
theorem nZ (p:ah) (s:State) (l:List Transfer) (hp:Small p):dJ p s l=some (FD p s l):=by
 unfold dJ FD
 rw [kK p s hp,bs]
 by_cases h0:rD p s=0
 ·rw [bx h0,cD,bu,bu]
  by_cases hl:16<(l.length:Int)
  ·rw [bx hl];rfl
  ·rw [bz hl,bu,bu,O9 p l (by omega),bs]
   have e:=EJ l (J8 p)
   cases hf:(List.range l.length).find? (fun i=> !J8 p (at' l i))with
   |none=>
    rw [hf]at e
    have e:l.all (J8 p)=true:=e.symm
    have:(l.any fun x=> !J8 p x)=false:=by
     rw [c9];intro x hx;have:=List.all_eq_true.1 e x hx;simp [this]
    rw [this];rfl
   |some k=>
    rw [hf]at e
    have e:l.all (J8 p)=false:=e.symm
    have:(l.any fun x=> !J8 p x)=true:=by
     cases h:(l.any fun x=> !J8 p x)with
     |true=>rfl
     |false=>
      rw [c9]at h
      have:l.all (J8 p)=true:=List.all_eq_true.2 fun x hx=>by have:=h x hx;simpa using this
      rw [this]at e;cases e
    rw [this];rfl
 ·rw [bz h0];rfl
section
variable {p:ah} {s t:State} (hp:VP p) (hs:VS p s)
include hp hs
theorem uy:fB p s=some (eG p s,0):=by
 obtain⟨L,h1,h2,_⟩:=SS hp hs
 have:=BP hp hs
 rw [h1]at this
 rw [h2];exact this
theorem rY:eu p s=some (J7 p s,0):=Kj hp hs (by rw [kK p s hp.small,iO.mpr ⟨hp,hs⟩])
omit hp hs in
theorem KT (L A:List Bool) (e1 e2:Int) (c:Bool) (hL:(L.length:Int)=p.ar) (hA:(A.length:Int)=p.ar) (hE:(s.am.length:Int)=p.ar) (hb:p.ar<=24):
  ay (kU p s (L,e1) (A,e2)) FUEL (c,0)=some (.brk (c && !((List.range A.length).any (tL L A s.am)))):=by
 have key:=aU (body:=kU p s (L,e1) (A,e2)) (fun i=>(c && !((List.range i).any (tL L A s.am)),(i:Int))) A.length (.brk (c && !((List.range A.length).any (tL L A s.am)))) (fuel_lt (by omega)) (fun i hi=> ?_) ?_
 ·have e:(c && !((List.range 0).any (tL L A s.am)))=c:=by simp
  rw [e]at key;exact key
 ·unfold kU
  dsimp only
  rw [uM (by omega),bt,au ⟨by omega,fun _=>by omega,fun _=>by omega,fun _=>by omega,fun _=>by omega⟩,bw,wr (by omega),List.range_succ,ep]
  simp only [List.any_cons,List.any_nil,cR]
  show(bif tL L A s.am i then _ else _)=_
  cases tL L A s.am i with
  |true=>simp
  |false=>simp
 ·unfold kU
  dsimp only
  rw [jE (by omega)];rfl
omit hp hs in
theorem YN (a:List ai) (y:ai):((List.range a.length).any fun j=>Kc (at' a j) y)=a.any (Kc y):=by
 rw [Bool.eq_iff_iff,c8,c8]
 constructor
 ·rintro ⟨j,hj,e⟩
  exact⟨_,at_mem (c7.1 hj),Eg.2 (Eg.1 e).symm⟩
 ·rintro ⟨z,hz,e⟩
  obtain⟨j,hj,rfl⟩:=iU hz
  exact⟨j,c7.2 hj,Eg.2 (Eg.1 e).symm⟩
omit hp hs in
theorem TS (a b:List ai) (i:Nat) (hi:i<b.length) (ha:a.length<=100000):ay (og (a,0) (b,0) (i:Int)) FUEL (false,0)=some (.brk (a.any (Kc (at' b i)))):=by
 rw [<-YN]
 refine aU (body:=og (a,0) (b,0) (i:Int)) (fun j=>((List.range j).any fun j=>Kc (at' a j) (at' b i),(j:Int))) a.length _ (fuel_lt (by omega)) (fun j hj=> ?_) ?_
 ·unfold og
  dsimp only
  rw [uM (by omega),bt,au ⟨fun _=>by omega,fun _=>by omega⟩,bw,bw,wr (by omega),wR,List.range_succ,ep]
  simp only [List.any_cons,List.any_nil,cR]
  rfl
 ·unfold og
  dsimp only
  rw [jE (by omega)];rfl
omit hp hs in
theorem LB (a b:List ai) (c:Bool) (ha:a.length<=100000) (hb:b.length<=100000):ay (kV (a,0) (b,0)) FUEL (c,0)=some (.brk (c && !(b.any fun y=> !(a.any (Kc y))))):=by
 have key:=aU (body:=kV (a,0) (b,0)) (fun i=>(c && !((b.take i).any fun y=> !(a.any (Kc y))),(i:Int))) b.length (.brk (c && !(b.any fun y=> !(a.any (Kc y))))) (fuel_lt (by omega)) (fun i hi=> ?_) ?_
 ·have e:(c && !((b.take 0).any fun y=> !(a.any (Kc y))))=c:=by simp
  rw [e]at key;exact key
 ·unfold kV
  dsimp only
  rw [uM (by omega),bt,TS a b i hi ha,bs]
  dsimp only
  rw [wr (by omega),eD hi,ep]
  simp only [List.any_cons,List.any_nil,cR]
  generalize ((b.take i).any fun y=> !(a.any (Kc y)))=b1
  generalize a.any (Kc (at' b i))=b2
  cases c<;>cases b1<;>cases b2<;>rfl
 ·unfold kV
  dsimp only
  rw [jE (by omega),bu,dT]
theorem UO {x:Transfer} (hx:Vk p x):wP p s x=some (oW s x,Hf p s x):=by
 have hb:=hp.b;have hll:=hp.ll
 have l1:=oO hp hs;have l2:=hs.al;have l3:=hs.ap;have l4:=hs.ag;have l5:=hs.aw
 obtain⟨w1,w2⟩:=hx.bh
 obtain⟨c1,c2,_⟩:=yC.1 hx.close
 have hn:=hs.new hx
 have l6:=oO hp hn;have l7:=hs.am
 unfold wP
 rw [uy hp hs,bs,wh s (hs.room hp),bs,au ⟨by omega,by omega⟩,au ⟨⟨by omega,by omega⟩,fun _=> ⟨by omega,show x.bh<((eG p s).length:Int) by omega⟩,fun _=> ⟨by omega,by omega⟩,fun _=> ⟨by omega,by omega⟩,fun _=> ⟨by omega,by omega⟩⟩]
 unfold Hf Ll Yn
 by_cases ho:0<=x.open_
 ·have hm:yh p x.open_=true:=by
   rcases hx.open_ with h|h
   ·omega
   ·exact h.1
  obtain⟨o1,o2,_⟩:=yC.1 hm
  have e:(⟨(s.ap.set x.close.toNat true).set x.open_.toNat false,s.aw,s.ag,s.on_,s.ae,s.am,s.al⟩:State)=oW s x:=by unfold oW GY;rw [ci ho]
  rw [bx ho,bt,au ⟨by omega,by rw [cJ];omega⟩,au ⟨fun _=> ⟨by omega,by omega⟩,fun _=> ⟨by omega,by omega⟩⟩,e,uy hp hn,bs]
  dsimp only
  rw [au (fun _=> ⟨by omega,by omega⟩),KT _ _ 0 0 _ l1 l6 l7 (by omega),bs]
  dsimp only
  rw [rY hp hs,bs,rY hp hn,bs,LB _ _ _ (uI hp hs) (uI hp hn),bs]
  dsimp only
  congr 2
  unfold Zv
  generalize (List.range (eG p (oW s x)).length).any (tL (eG p s) (eG p (oW s x)) s.am)=h1
  generalize ((J7 p (oW s x)).any fun c=> !((J7 p s).any (Kc c)))=h2
  generalize at' (eG p (oW s x)) x.bh.toNat=h3
  generalize at' (eG p s) x.bh.toNat=h4
  cases at' s.al x.bh.toNat with
  |true=>rfl
  |false=>
  cases h4 with
  |true=>rfl
  |false=>
  cases at' s.ap x.close.toNat with
  |true=>rfl
  |false=>
  cases at' s.ag x.close.toNat with
  |true=>rfl
  |false=>
  cases at' s.aw x.close.toNat with
  |true=>rfl
  |false=>
  cases at' s.ag x.open_.toNat with
  |true=>rfl
  |false=>
  cases at' s.aw x.open_.toNat with
  |true=>rfl
  |false=>cases h1<;>cases h2<;>cases h3<;>rfl
 ·have e:(⟨s.ap.set x.close.toNat true,s.aw,s.ag,s.on_,s.ae,s.am,s.al⟩:State)=oW s x:=by unfold oW GY;rw [ce ho]
  rw [bz ho,bu,e,uy hp hn,bs]
  dsimp only
  rw [au (fun _=> ⟨by omega,by omega⟩),show Bn=kU from rfl,show AQ=kV from rfl,KT _ _ 0 0 _ l1 l6 l7 (by omega),bs]
  dsimp only
  rw [rY hp hs,bs,rY hp hn,bs,LB _ _ _ (uI hp hs) (uI hp hn),bs]
  dsimp only
  congr 2
  generalize (List.range (eG p (oW s x)).length).any (tL (eG p s) (eG p (oW s x)) s.am)=h1
  generalize ((J7 p (oW s x)).any fun c=> !((J7 p s).any (Kc c)))=h2
  generalize at' (eG p (oW s x)) x.bh.toNat=h3
  generalize at' (eG p s) x.bh.toNat=h4
  cases at' s.al x.bh.toNat with
  |true=>rfl
  |false=>
  cases h4 with
  |true=>rfl
  |false=>
  cases at' s.ap x.close.toNat with
  |true=>rfl
  |false=>
  cases at' s.ag x.close.toNat with
  |true=>rfl
  |false=>
  cases at' s.aw x.close.toNat with
  |true=>rfl
  |false=>cases h1<;>cases h2<;>cases h3<;>rfl
end
def flat (s:State) (o:List Int):List Bool × List Bool × List Bool × List Bool × List Bool × List Bool × List Bool × List Int:=(s.ap,s.aw,s.ag,s.on_,s.ae,s.am,s.al,o)
theorem Zd (o:List Int) (i:Int):((List.range o.length).any fun j=>decide (at' o j=i))=true↔i∈o:=by
 rw [c8]
 constructor
 ·rintro ⟨j,hj,e⟩
  exact of_decide_eq_true e ▸ at_mem (c7.1 hj)
 ·intro h
  obtain⟨j,hj,e⟩:=iU h
  exact⟨j,c7.2 hj,bx e⟩
theorem M4 (o:List Int) (i:Int) (ho:o.length<=1000):ay (jT o i) FUEL (false,0)=some (.brk ((List.range o.length).any fun j=>decide (at' o j=i))):=by
 refine aU (body:=jT o i) (fun j=>((List.range j).any fun j=>decide (at' o j=i),(j:Int))) o.length _ (fuel_lt (by omega)) (fun j hj=> ?_) ?_
 ·unfold jT
  dsimp only
  rw [uM (by omega),bt,au (fun _=>by omega),bw,wr (by omega),wR,List.range_succ,ep]
  simp only [List.any_cons,List.any_nil,cR]
  rfl
 ·unfold jT
  dsimp only
  rw [jE (by omega)];rfl
section
variable {p:ah} {s0:State} {l:List Transfer} (hp:VP p) (hl:l.length<=16) (hx: ∀x∈l,Vk p x)
include hp hl hx
theorem MK {s:State} {o:List Int} {d:List Bool} (g:SI p s0 l s o d) (ho:o.length<=1000):
  ay (ny p l s.ap s.aw s.ag s.on_ s.ae s.am s.al o) FUEL 0=some (match qG p s l d with|some i=> .brk (flat (oW s (at' l i)) (o++[(i:Int)]))|none=> .brk (flat s o)):=by
 refine NT l.length (fun i=> !at' d i && Hf p s (at' l i)) (fun i=>Ex.brk (flat (oW s (at' l i)) (o++[(i:Int)]))) (Ex.brk (flat s o)) (by omega) (fun i hi=> ?_) ?_
 ·unfold ny
  rw [uM (by omega),bt,M4 o _ ho,bs]
  dsimp only
  rw [bw,UO hp g.vs (hx _ (at_mem hi)),bs,au (by omega),wr (by omega)]
  have e:((List.range o.length).any fun j=>decide (at' o j=(i:Int)))=at' d i:=by
   rw [Bool.eq_iff_iff,Zd,g.ord i hi]
  rw [e,au ⟨by rw [cw];omega,by rw [cw];omega⟩]
  cases at' d i<;>cases Hf p s (at' l i)<;>rfl
 ·unfold ny
  rw [jE (by omega)];rfl
theorem ve: ∀(k n:Nat) {s:State} {o:List Int} {d:List Bool},SI p s0 l s o d->n+k=l.length->o.length<=n->
  ay (gX p l) (k+1) (s.ap,s.aw,s.ag,s.on_,s.ae,s.am,s.al,o,(n:Int))=some (.brk (flat (wZ p l k s o d).1 (wZ p l k s o d).2.1))
 |0,n,s,o,d,g,hn,ho=>by
  rw [bK]
  unfold gX
  dsimp only
  rw [jE (by omega)];rfl
 |k+1,n,s,o,d,g,hn,ho=>by
  rw [bK]
  have e:gX p l (s.ap,s.aw,s.ag,s.on_,s.ae,s.am,s.al,o,(n:Int))=some (match qG p s l d with
    |some i=> .next ((oW s (at' l i)).ap,(oW s (at' l i)).aw,(oW s (at' l i)).ag,(oW s (at' l i)).on_,(oW s (at' l i)).ae,(oW s (at' l i)).am,(oW s (at' l i)).al,o++[(i:Int)],((n+1:Nat):Int))
    |none=> .next (s.ap,s.aw,s.ag,s.on_,s.ae,s.am,s.al,o,((n+1:Nat):Int))):=by
   unfold gX
   dsimp only
   rw [uM (by omega),bt,MK hp hl hx g (by omega),bs,wr (by omega)]
   cases qG p s l d<;>rfl
  rw [e]
  unfold wZ
  cases h:qG p s l d with
  |none=>
   have:=ve k (n+1) g (by omega) (by omega)
   have e2:wZ p l k s o d=(s,o,d):=by
    cases k with
    |zero=>rfl
    |succ k=>unfold wZ;rw [h]
   rw [e2]at this
   exact this
  |some i=>exact ve k (n+1) (g.step hp hx h) (by omega) (by rw [b_,cw];omega)
end
theorem Fj (p:ah) (s:State) (l:List Transfer) (hp:Small p):
  gM p s l=some (if FD p s l=0 then((Aq p s l).1,(Aq p s l).2.1,0)else(noS,[],FD p s l)):=by
 unfold gM
 rw [nZ p s l hp,bs]
 by_cases h0:FD p s l=0
 ·obtain⟨hv,hs,h16,hx⟩:=nD.1 h0
  rw [bx h0,cD,bu,wh s (hs.room hv),bs,ci h0]
  have key:=ve hv h16 hx l.length 0 (SI.init hv hs) (by omega) (by simp)
  have key:=jd key (m:=FUEL) (by unfold FUEL;omega)
  have key:ay (gX p l) FUEL (s.ap,s.aw,s.ag,s.on_,s.ae,s.am,s.al,([]:List Int),0)=_:=key
  rw [key,bs]
  rfl
 ·rw [bz h0,ce h0];rfl
theorem Jd {σ ρ:Type} {f g:σ->Option (aH σ ρ)} (I:σ->Prop) (h: ∀s,I s->f s=g s/\ ∀s',f s=some (.next s')->I s'): ∀(n:Nat) (s:σ),I s->ay f n s=ay g n s
 |0,_,_=>rfl
 |n+1,s,hs=>by
  obtain⟨h1,h2⟩:=h s hs
  rw [bK,bK,<-h1]
  cases e:f s with
  |none=>rfl
  |some q=>
   cases q with
   |next s'=>exact Jd I h n s' (h2 s' e)
   |done r=>rfl
abbrev T7:=List Bool × List Bool × List Bool × List Bool × List Bool × List Bool × List Bool
def mk7 (q:T7):State:=⟨q.1,q.2.1,q.2.2.1,q.2.2.2.1,q.2.2.2.2.1,q.2.2.2.2.2.1,q.2.2.2.2.2.2⟩
theorem Ry (p:ah) (s:State) (l:List Transfer) (hp:Small p) (hl:l.length<=100): ∃r,bG p s l=some r/\gM p s l=some r/\(r.2.2=0->VP p/\VS p r.1)/\(r.2.2≠0->r.1=E0)/\r.2.1.length<=100/\(FD p s l=0->r.2.2=0):=by
 refine⟨_,LC p s l hp (by omega),Fj p s l hp, ?_⟩
 by_cases h0:FD p s l=0
 ·obtain⟨hv,hs,h16,hx⟩:=nD.1 h0
  rw [ci h0]
  obtain⟨g,_⟩:=Ps hv hx hs
  refine⟨fun _=> ⟨hv,g.vs⟩,fun h=>absurd rfl h, ?_,fun _=>rfl⟩
  have: ∀(n:Nat) (s:State) (o:List Int) (d:List Bool),(wZ p l n s o d).2.1.length<=o.length+n:=by
   intro n
   induction n with
   |zero=>intro s o d;exact cx _
   |succ n ih=>
    intro s o d
    unfold wZ
    cases qG p s l d with
    |none=>exact Nat.le_add_right _ _
    |some i=>
     have:=ih (oW s (at' l i)) (o++[(i:Int)]) (d.set i true)
     rw [b_,cw]at this
     dsimp only
     omega
  have:=this l.length s [] (List.replicate l.length false)
  unfold Aq
  simp only [List.length_nil]at this
  dsimp only
  omega
 ·rw [ce h0]
  exact⟨fun h=>absurd h h0,fun _=>rfl,by simp,fun h=>absurd h h0⟩
section
variable {p:ah} (hp:VP p)
include hp
theorem H9 (ba:List Part) (hl:ba.length<=1000) (q:List Bool × List Bool × List Bool × List Bool × List Bool × List Bool × List Bool × Int) (hq:VS p (mk7 (q.1,q.2.1,q.2.2.1,q.2.2.2.1,q.2.2.2.2.1,q.2.2.2.2.2.1,q.2.2.2.2.2.2.1))/\0<=q.2.2.2.2.2.2.2/\q.2.2.2.2.2.2.2<=(ba.length:Int)):
  eU p ba q=dF p ba q/\ ∃f,dF p ba q=some f/\match f with
   | .next q'=>(VS p (mk7 (q'.1,q'.2.1,q'.2.2.1,q'.2.2.2.1,q'.2.2.2.2.1,q'.2.2.2.2.2.1,q'.2.2.2.2.2.2.1))/\0<=q'.2.2.2.2.2.2.2/\q'.2.2.2.2.2.2.2<=(ba.length:Int))/\ba.length - q'.2.2.2.2.2.2.2.toNat<ba.length - q.2.2.2.2.2.2.2.toNat
   | .done (.ret v)=>v.1=E0/\v.2≠0
   | .done (.brk t)=>VS p (mk7 t):=by
 obtain⟨s0,s1,s2,s3,s4,s5,s6,i⟩:=q
 obtain⟨hs,h1,h2⟩:=hq
 dsimp only at hs h1 h2
 unfold mk7 at hs
 dsimp only at hs
 unfold eU dF
 dsimp only
 by_cases hi:i<(ba.length:Int)
 ·have hc:(0:Int)<=i/\i<(ba.length:Int):=⟨h1,hi⟩
  rw [bx hi,bt,bt]
  unfold pE
  by_cases hx:mP p (at' ba i.toNat)
  ·rw [L9 hp hs hx true,EN hp hs hx true,bs,bs,bs,au hc,wr (by omega)]
   refine⟨rfl,_,rfl,⟨VS.wG hs _ true,by dsimp only;omega,by dsimp only;omega⟩,by dsimp only;omega⟩
  ·rw [Qy hp hs hx true,KH hp hs hx true,bs,bs,bs,au hc]
   exact⟨rfl,_,rfl,rfl,by decide⟩
 ·rw [bz hi,bu,bu]
  exact⟨rfl,_,rfl,hs⟩
theorem Qi (ba:List Part) (hl:ba.length<=1000) {s:State} (hs:VS p s): ∃r,ay (dF p ba) FUEL (s.ap,s.aw,s.ag,s.on_,s.ae,s.am,s.al,0)=some r/\ay (eU p ba) FUEL (s.ap,s.aw,s.ag,s.on_,s.ae,s.am,s.al,0)=some r/\
  ((∃v,r= .ret v/\v.1=E0/\v.2≠0)\/ ∃t:T7,r= .brk t/\VS p (mk7 t)):=by
 let I:List Bool × List Bool × List Bool × List Bool × List Bool × List Bool × List Bool × Int->Prop:=fun q=>VS p (mk7 (q.1,q.2.1,q.2.2.1,q.2.2.2.1,q.2.2.2.2.1,q.2.2.2.2.2.1,q.2.2.2.2.2.2.1))/\0<=q.2.2.2.2.2.2.2/\q.2.2.2.2.2.2.2<=(ba.length:Int)
 have h0:I (s.ap,s.aw,s.ag,s.on_,s.ae,s.am,s.al,0):=⟨hs,Int.le_refl 0,by dsimp only;omega⟩
 obtain⟨r,h,hr⟩:=Lg (body:=dF p ba) I (fun q=>ba.length - q.2.2.2.2.2.2.2.toNat) (fun r=>(∃v,r= .ret v/\v.1=E0/\v.2≠0)\/ ∃t:T7,r= .brk t/\VS p (mk7 t)) (fun q hq=>by
  obtain⟨_,f,hf,hm⟩:=H9 hp ba hl q hq
  refine⟨f,hf, ?_⟩
  cases f with
  |next q'=>exact hm
  |done r=>
   cases r with
   |ret v=>exact .inl ⟨v,rfl,hm⟩
   |brk t=>exact .inr ⟨t,rfl,hm⟩) FUEL _ h0 (fuel_lt (by dsimp only;omega))
 refine⟨r,h, ?_,hr⟩
 rw [<-h]
 refine Jd I (fun q hq=> ?_) FUEL _ h0
 obtain⟨e,f,hf,hm⟩:=H9 hp ba hl q hq
 refine⟨e,fun q' hq'=> ?_⟩
 rw [e,hf]at hq'
 cases hq'
 exact hm.1
end
theorem VB (p:ah) (s:State) (l:List Transfer) (ba:List Part) (hp:Small p) (hl:l.length<=100) (hn:ba.length<=1000): ∃r,gG p s l ba=some r/\gD p s l ba=some r/\(r.2=0->VP p/\VS p r.1)/\(r.2≠0->r.1=E0):=by
 unfold gG gD
 rw [vH p s l hp (by omega),nZ p s l hp,bs,bs]
 by_cases h0:FD p s l=0
 ·obtain⟨hv,hs,h16,hx⟩:=nD.1 h0
  rw [bx h0,cD,bu,bu]
  obtain⟨r,h1,h2,hr⟩:=Qi hv ba hn hs
  rw [h1,h2,bs,bs]
  rcases hr with⟨v,rfl,hv0,hv1⟩|⟨t,rfl,ht⟩
  ·exact⟨v,rfl,rfl,fun h=>absurd h hv1,fun _=>hv0⟩
  ·dsimp only
   obtain⟨q,q1,q2,q3,_,_,q6⟩:=Ry p (mk7 t) l hp hl
   have z:=q6 (nD.2 ⟨hv,ht,h16,hx⟩)
   have q1':bG p ⟨t.1,t.2.1,t.2.2.1,t.2.2.2.1,t.2.2.2.2.1,t.2.2.2.2.2.1,t.2.2.2.2.2.2⟩ l=some q:=q1
   have q2':gM p ⟨t.1,t.2.1,t.2.2.1,t.2.2.2.1,t.2.2.2.2.1,t.2.2.2.2.2.1,t.2.2.2.2.2.2⟩ l=some q:=q2
   rw [q1',q2',bs,bs]
   exact⟨(q.1,0),by rw [z],rfl,fun _=>q3 z,fun h=>absurd rfl h⟩
 ·rw [bz h0,cE,bt,bt]
  exact⟨_,rfl,rfl,fun h=>absurd h h0,fun _=>rfl⟩
def BA (p:ah) (s:State) (k:Nat):Bool:=(JK p (eG p s) k).e0||(JK p (eG p s) k).e1
section
variable {p:ah} {s:State} (hp:VP p) (hs:VS p s)
include hp hs
theorem Jh {k:Nat} (hk:k<p.a_.length):lu p s (k:Int)=some (BA p s k):=by
 unfold lu
 rw [Vt hp hs (BP hp hs) (oO hp hs),bs,au ⟨by rw [aY];omega,fun _=>by rw [aY];omega⟩,bw,rH hk,wR]
 rfl
theorem AV {k:Nat} (hk:k<p.a_.length):lF p s (k:Int)=some (BA p s k):=by
 unfold lF
 rw [SC hp hs (uy hp hs) (oO hp hs),bs,au ⟨by rw [aY];omega,fun _=>by rw [aY];omega⟩,bw,rH hk,wR]
 rfl
def Az (p:ah) (s:State) (n:Nat):List Int:=((List.range n).filter fun k=>decide (0<(at' p.a_ k).bk) && !BA p s k).map fun(k:Nat)=>(k:Int)
omit hp hs in
theorem F6 (n:Nat):(Az p s n).length<=n:=by
 unfold Az;rw [de]
 exact dt (List.length_filter_le _ _) (by simp)
omit hp hs in
theorem J5 (n:Nat):Az p s (n+1)=bif decide (0<(at' p.a_ n).bk) && !BA p s n then Az p s n++[(n:Int)]else Az p s n:=by
 unfold Az
 rw [List.range_succ,ej,List.map_append]
 cases h:(decide (0<(at' p.a_ n).bk) && !BA p s n)with
 |true=>simp [h]
 |false=>simp [h]
theorem Lv (e:Int):ay (l8 p (s,e)) FUEL ([],0)=some (.brk (Az p s p.a_.length)):=by
 have hrl:=hp.rl
 refine aU (body:=l8 p (s,e)) (fun k=>(Az p s k,(k:Int))) p.a_.length _ (fuel_lt (by omega)) (fun k hk=> ?_) ?_
 ·have hlen:=F6 (p:=p) (s:=s) k
  unfold l8
  dsimp only
  rw [uM (by omega),bt,au ⟨by omega,by omega⟩,Jh hp hs hk,wr (by omega),au ⟨by rw [cw];omega,by rw [cw];omega⟩,J5,bw]
  cases decide (0<(at' p.a_ k).bk)with
  |false=>rfl
  |true=>cases BA p s k<;>rfl
 ·unfold l8
  dsimp only
  rw [jE (by omega)];rfl
theorem E5 (e:Int):ay (lZ p (s,e)) FUEL ([],0)=some (.brk (Az p s p.a_.length)):=by
 have hrl:=hp.rl
 refine aU (body:=lZ p (s,e)) (fun k=>(Az p s k,(k:Int))) p.a_.length _ (fuel_lt (by omega)) (fun k hk=> ?_) ?_
 ·have hlen:=F6 (p:=p) (s:=s) k
  unfold lZ
  dsimp only
  rw [uM (by omega),bt,AV hp hs hk,bw,wr (by omega),J5,show decide (1<=(at' p.a_ k).bk)=decide (0<(at' p.a_ k).bk)from decide_eq_decide.2 (by omega)]
  have hc:(0:Int)<=(k:Int)/\(k:Int)<(p.a_.length:Int):=⟨by omega,by omega⟩
  cases decide (0<(at' p.a_ k).bk)with
  |false=>exact au hc _
  |true=>
   refine(au hc _).trans ?_
   cases BA p s k with
   |true=>rfl
   |false=>exact au ⟨by rw [cw];omega,by rw [cw];omega⟩ _
 ·unfold lZ
  dsimp only
  rw [jE (by omega)];rfl
end
theorem adq (p:ah) (s:State) (l:List Transfer) (ba:List Part) (hp:Small p) (hl:l.length<=100) (hn:ba.length<=1000): ∃r,iN p s l ba=some r/\jL p s l ba=some r/\r.1.length<=1000:=by
 obtain⟨r,h1,h2,h3,_⟩:=VB p s l ba hp hl hn
 unfold iN jL
 rw [h1,h2,bs,bs]
 by_cases h0:r.2=0
 ·obtain⟨hv,hs⟩:=h3 h0
  have hrl:=hv.rl
  obtain⟨t,e⟩:=r
  dsimp only at h0 hs ⊢
  rw [bx h0,cD,bu,bu,Lv hv hs e,E5 hv hs e]
  exact⟨_,rfl,rfl,by have:=F6 (p:=p) (s:=t) p.a_.length;dsimp only;omega⟩
 ·rw [bz h0]
  exact⟨_,rfl,rfl,by simp⟩
theorem Wh (l:List Transfer) (hl:l.length<=100):lC l=some l:=by
 have key:ay (nU l) FUEL ([],0)=some (.brk l):=by
  have:=aU (body:=nU l) (fun t=>(l.take t,(t:Int))) l.length (.brk l) (fuel_lt (by omega)) (fun t ht=> ?_) ?_
  ·exact this
  ·unfold nU
   dsimp only
   rw [uM (by omega),bt,au ⟨by omega,by simp only [cw,dC];omega,by simp only [cw,dC];omega⟩,bw,wr (by omega),eD ht]
   rfl
  ·unfold nU
   dsimp only
   rw [jE (by omega),bu,dT]
 unfold lC
 rw [key];rfl
theorem CF (l:List Int) (h:l.length<=1000000):gI l l=some true:=by
 have key:ay (mW l l) FUEL 0=some (.brk ()):=by
  refine EQ l (by omega) (fun t ht=> ?_) ?_
  ·unfold mW
   rw [uM (by omega),bt,au ⟨by omega,by omega⟩,wr (by omega)]
   simp
  ·unfold mW
   rw [jE (by omega)];rfl
 unfold gI
 simp [key]
theorem Ru {p:ah} {s:State} {e:Int} (h1:e=0->VP p/\VS p s) (h2:e≠0->s=E0):Ev s/\s.ap.length<=1000000/\s.am.length<=1000000:=by
 by_cases h:e=0
 ·obtain⟨hv,hs⟩:=h1 h
  have hb:=hv.b;have hll:=hv.ll;have h3:=hs.ap;have h4:=hs.am
  exact⟨hs.room hv,by omega,by omega⟩
 ·rw [h2 h]
  exact⟨E0.room,by decide,by decide⟩
theorem Eh (p:ah) (s:State) (l:List Transfer) (ba:List Part) (hp:Small p) (hr:Ev s):jP p s l ba=some true:=by
 unfold jP
 by_cases hl:20<(l.length:Int)
 ·rw [bx hl]
  simp only [wR,Bool.or_true,Bool.true_or]
  rw [bt,tQ];rfl
 by_cases hn:20<(ba.length:Int)
 ·rw [bx hn]
  simp only [wR,Bool.or_true,Bool.true_or]
  rw [bt,tQ];rfl
 generalize (bif (bif (bif (bif (decide (60<(p.aa.length:Int)))then true else(decide (60<(p.aq.length:Int))))then true else(decide (60<(p.a_.length:Int))))then true else(decide (20<(l.length:Int))))then true else(decide (20<(ba.length:Int))))=c
 cases c with
 |true=>rw [bt,tQ];rfl
 |false=>
  rw [bu,wh s hr,bs,Wh l (by omega),bs]
  obtain⟨r,h1,h2,h3,h4,h5,_⟩:=Ry p s l hp (by omega)
  obtain⟨hr1,hc,he⟩:=Ru h3 h4
  rw [h1,h2,bs,bs,bx rfl,cD,show gB [(false,false)]=true from rfl,bt,vJ _ hr1,bs,bu,cD,show gB [(false,false)]=true from rfl,bt,CF _ (by omega),bs,bu,cD,bu,VT _ hc,bs]
  dsimp only
  rw [Xy _ he,bs,bs]
  obtain⟨q,q1,q2,q3,q4⟩:=VB p s l ba hp (by omega) (by omega)
  obtain⟨hq1,_,_⟩:=Ru q3 q4
  dsimp only
  rw [q1,q2,bs,bs,bx rfl,cD,show gB [(false,false)]=true from rfl,bt,vJ _ hq1,bs,bu,cD,bu,bs]
  obtain⟨d,d1,d2,d3⟩:=adq p s l ba hp (by omega) (by omega)
  rw [d1,d2,bs,bs,bx rfl,show gB [(true,true)]=true from rfl,bt,CF _ (by omega),bs,bt,show gB [(true,true)]=true from rfl,bt,vJ _ hr,bs,bt,show gB [(true,true)]=true from rfl,bt,tQ]
  rfl
theorem Ls {α β ρ:Type} [Inhabited α] {body:(List β × Int)->Option (aH (List β × Int) (Ex (List β) ρ))} (l:List α) (q:α->Bool) (f:α->β) (out:List β) (c:Int) (hl:l.length<=100000)
  (hb: ∀(t:Nat) (o:List β),t<l.length->o.length<=out.length+t->body (o,c+(t:Int))=some (.next (bif q (at' l t)then o++[f (at' l t)]else o,c+(t:Int)+1)))
  (he: ∀o:List β,body (o,c+(l.length:Int))=some (.done (.brk o))):ay body FUEL (out,c)=some (.brk (out++(l.filter q).map f)):=by
 have key:=aU (body:=body) (fun t=>(out++((l.take t).filter q).map f,c+(t:Int))) l.length (.brk (out++(l.filter q).map f)) (fuel_lt (by omega)) (fun t ht=> ?_) ?_
 ·have e:out++((l.take 0).filter q).map f=out:=by simp
  have e2:c+((0:Nat):Int)=c:=by simp
  rw [e,e2]at key;exact key
 ·have hle:(((l.take t).filter q).map f).length<=t:=by
   rw [de]
   exact dt (List.length_filter_le _ _) (by rw [dC];omega)
  rw [hb t _ ht (by rw [b_];omega),eD ht,ej,List.map_append]
  have e:c+(t:Int)+1=c+((t+1:Nat):Int):=by omega
  rw [e]
  cases h:q (at' l t)with
  |true=>simp [h,cS]
  |false=>simp [h]
 ·rw [he,dT]
theorem Av {α β ρ:Type} [Inhabited α] {body:(List β × Int)->Option (aH (List β × Int) (Ex (List β) ρ))} (l:List α) (q:α->Bool) (f:α->β) (out:List β) (hl:l.length<=100000)
  (hb: ∀(t:Nat) (o:List β),t<l.length->o.length<=out.length+t->body (o,(t:Int))=some (.next (bif q (at' l t)then o++[f (at' l t)]else o,(t:Int)+1)))
  (he: ∀o:List β,body (o,(l.length:Int))=some (.done (.brk o))):ay body FUEL (out,0)=some (.brk (out++(l.filter q).map f)):=
 Ls l q f out 0 hl (fun t o ht ho=>by rw [Int.zero_add];exact hb t o ht ho) (fun o=>by rw [Int.zero_add];exact he o)
section
variable {p:ah} {s:State} (hp:VP p) (hs:VS p s)
include hp
theorem Dh {x:Part} (h:x∈partsOf p):mP p x:=by
 obtain⟨i,hi,rfl⟩:=iU h
 obtain⟨c,j,e,hc⟩:=Rp hp hi
 rw [e]
 refine⟨by dsimp only;omega, ?_⟩
 rcases hc with⟨rfl,h⟩|⟨rfl,h⟩|⟨rfl,h⟩
 ·exact .inl ⟨rfl,h⟩
 ·exact .inr (.inl ⟨rfl,by dsimp only;omega⟩)
 ·exact .inr (.inr ⟨rfl,by dsimp only;omega⟩)
theorem Dn:(partsOf p).length<=72:=by
 have hb:=hp.b;have hsl:=hp.sl;have hll:=hp.ll
 simp only [partsOf,b_,aY];omega
def aC (p:ah) (s:State):List Part:=(partsOf p).filter fun x=> !xg s x
theorem qi {x:Part} (h:x∈aC p s):mP p x:=Dh hp (c_.1 h).1
theorem oK:(aC p s).length<=72:=dt (List.length_filter_le _ _) (Dn hp)
include hs
omit hp in
theorem PL {x:Part} (hx:mP p x):nX s x=some (xg s x):=by
 have h1:=hs.al;have h2:=hs.ae;have h3:=hs.ag
 obtain⟨c,j⟩:=x
 obtain⟨h0,h⟩:=hx
 dsimp only at h0 h
 unfold nX xg
 dsimp only
 have l4:([([]:List Bool),s.al,s.ae,s.ag].length:Int)=4:=rfl
 rcases h with⟨rfl,hj⟩|⟨rfl,hj⟩|⟨rfl,hj⟩
 ·rw [au ⟨⟨by omega,by rw [l4];omega⟩,⟨h0,by show j<(s.al.length:Int);omega⟩⟩];rfl
 ·rw [au ⟨⟨by omega,by rw [l4];omega⟩,⟨h0,by show j<(s.ae.length:Int);omega⟩⟩];rfl
 ·rw [au ⟨⟨by omega,by rw [l4];omega⟩,⟨h0,by show j<(s.ag.length:Int);omega⟩⟩];rfl
omit hp in
theorem LA {x:Part} (hx:mP p x):l9 x s.ap s.aw s.ag s.on_ s.ae s.am s.al=some (xg s x):=by
 unfold l9
 have:=PL hs hx
 have this:nX ⟨s.ap,s.aw,s.ag,s.on_,s.ae,s.am,s.al⟩ x=some (xg s x):=this
 rw [this];rfl
omit hp in
theorem SE (l:List Part) (hl:l.length<=100000) (hx: ∀x∈l,mP p x):jw l s.ap s.aw s.ag s.on_ s.ae s.am s.al=some (match l.findIdx? (xg s)with|some i=>(i:Int)|none=> -1):=by
 unfold jw
 rw [pQ l (xg s) id (by omega) (fun i hi=> ?_) ?_]
 ·cases l.findIdx? (xg s)<;>rfl
 ·unfold kg
  rw [jE (by omega)];rfl
 ·unfold kg
  rw [bw,LA hs (hx _ (at_mem hi))]
  exact qj hi (by omega) _ id _
omit hp in
theorem SY (l:List Part) (hl:l.length<=100000) (hx: ∀x∈l,mP p x) (q:List Part × Int × Int) (hq: ∃i j:Nat,q.2.1=(i:Int)/\q.2.2=(j:Int)/\i<=j/\j<=l.length/\q.1.length=l.length/\q.1.take i=(l.take j).filter (fun x=> !xg s x)/\ ∀k,j<=k->k<l.length->at' q.1 k=at' l k):
  ∃f,fH s.ap s.aw s.ag s.on_ s.ae s.am s.al q=some f/\match f with
   | .next q'=>(∃i j:Nat,q'.2.1=(i:Int)/\q'.2.2=(j:Int)/\i<=j/\j<=l.length/\q'.1.length=l.length/\q'.1.take i=(l.take j).filter (fun x=> !xg s x)/\ ∀k,j<=k->k<l.length->at' q'.1 k=at' l k)/\l.length - q'.2.2.toNat<l.length - q.2.2.toNat
   | .done r=> ∃(o:List Part) (i:Nat),r= .brk (o,(i:Int))/\i<=o.length/\o.length=l.length/\o.take i=l.filter (fun x=> !xg s x):=by
 obtain⟨o,ii,jj⟩:=q
 obtain⟨i,j,hi,hj,hij,hjl,hol,ht,hk⟩:=hq
 dsimp only at hi hj hol ht hk
 subst hi hj
 unfold fH
 dsimp only
 by_cases hc:j<l.length
 ·rw [uM (by omega),bt,au ⟨by omega,by omega⟩,bw,hk j (cx j) hc,LA hs (hx _ (at_mem hc)),bs]
  cases hb:xg s (at' l j)with
  |true=>
   refine⟨_,rfl,⟨i,j+1,rfl,wr (by omega),by omega,hc,hol, ?_,fun k h1 h2=>hk k (by omega) h2⟩,by dsimp only;rw [wr (by omega)];omega⟩
   rw [eD hc,ej,ht]
   simp [hb]
  |false=>
   rw [cE,bt,au ⟨by omega,by omega⟩]
   refine⟨_,rfl,⟨i+1,j+1,wr (by omega),wr (by omega),by omega,hc,by dsimp only;rw [cJ];exact hol, ?_,fun k h1 h2=> ?_⟩,by dsimp only;rw [wr (by omega)];omega⟩
   ·dsimp only
    rw [bw,eD (by rw [cJ];omega),eD hc,ej,bU (by omega),List.take_set_of_le (cx i),ht]
    simp [hb]
   ·dsimp only
    rw [bw,bM (by omega)]
    exact hk k (by omega) h2
 ·rw [jE (by omega),bu]
  refine⟨_,rfl,o,i,rfl,by omega,hol, ?_⟩
  rw [ht,List.take_of_length_le (by omega)]
theorem Rk (l:List Part) (hl:l.length<=100000) (hx: ∀x∈l,mP p x):iM l s.ap s.aw s.ag s.on_ s.ae s.am s.al=some (l.filter fun x=> !xg s x):=by
 unfold iM
 rw [SE hs l hl hx,bs]
 cases h:l.findIdx? (xg s)with
 |none=>
  dsimp only
  rw [bx rfl,bt]
  congr 1
  symm
  rw [List.filter_eq_self]
  intro x hxm
  have:=List.findIdx?_eq_none_iff.1 h x hxm
  rw [this];rfl
 |some k=>
  obtain⟨hk,hkb,hkn⟩:=List.findIdx?_eq_some_iff_getElem.1 h
  dsimp only
  rw [bz (by omega),bu,wr (by omega)]
  obtain⟨r,hr,o,i,rfl,h1,h2,h3⟩:=Lg (body:=fH s.ap s.aw s.ag s.on_ s.ae s.am s.al) (fun q=> ∃i j:Nat,q.2.1=(i:Int)/\q.2.2=(j:Int)/\i<=j/\j<=l.length/\q.1.length=l.length/\q.1.take i=(l.take j).filter (fun x=> !xg s x)/\ ∀k,j<=k->k<l.length->at' q.1 k=at' l k) (fun q=>l.length - q.2.2.toNat)
   (fun r=> ∃(o:List Part) (i:Nat),r= .brk (o,(i:Int))/\i<=o.length/\o.length=l.length/\o.take i=l.filter (fun x=> !xg s x))
   (fun q hq=>by obtain⟨f,e,hf⟩:=SY hs l hl hx q hq;exact⟨f,e,by cases f<;>exact hf⟩) FUEL (l,(k:Int),(k:Int)+1) ⟨k,k+1,rfl,rfl,by omega,hk,rfl,by
    dsimp only
    rw [eD hk,ej,fG hk]
    simp only [List.filter_cons,hkb,cD,List.filter_nil,cX]
    symm
    simp only [Bool.false_eq_true,if_false,cX]
    rw [List.filter_eq_self]
    intro x hxm
    obtain⟨m,hm,e⟩:=List.mem_take_iff_getElem.1 hxm
    have:=hkn m (by omega)
    rw [e]at this
    simpa using this,fun _ _ _=>rfl⟩ (fuel_lt (by dsimp only;omega))
  rw [hr,bs]
  dsimp only
  have hc:=Ir o i (⟨0,0⟩:Part)
  rw [au ⟨by omega,by omega⟩,bw,au ⟨by omega,by omega⟩,Uo,h3]
theorem NH:iX p s=some (aC p s):=by
 unfold iX
 rw [parts_eq hp,bs]
 dsimp only
 rw [Rk hp hs _ (by have:=Dn hp;omega) (fun x hx=>Dh hp hx)]
 rfl
theorem Gv:mE p s=some (aC p s):=by
 have h72:=Dn hp
 have h1:=hs.al;have h2:=hs.ae;have h3:=hs.ag
 obtain⟨l,e,g1,g2,_⟩:=QJ hp.small
 rw [parts_eq hp]at g1
 cases g1
 unfold mE
 rw [g2,bs]
 have key:=Av (body:=ou s (partsOf p,0)) (partsOf p) (fun x=> !xg s x) id [] (by omega) (fun t o ht ho=> ?_) (fun o=> ?_)
 ·rw [key]
  show some ([]++((partsOf p).filter fun x=> !xg s x).map id)=_
  rw [cY,List.map_id];rfl
 ·obtain⟨q0,q⟩:=Dh hp (at_mem ht)
  have ho:o.length<=t:=by simpa using ho
  unfold ou
  dsimp only
  rw [uM (by omega),bt,au ⟨by omega,by omega⟩,bw]
  generalize at' (partsOf p) t=x at q0 q
  rw [au (by
   rcases q with⟨h,q⟩|⟨h,q⟩|⟨h,q⟩
   ·rw [h];exact⟨fun _=> ⟨q0,by omega⟩,fun e=>absurd e (by simp [gB]),fun e=>absurd e (by simp [gB])⟩
   ·rw [h];exact⟨fun e=>absurd e (by simp [gB]),fun _=> ⟨q0,by omega⟩,fun e=>absurd e (by simp [gB])⟩
   ·rw [h];exact⟨fun e=>absurd e (by simp [gB]),fun e=>absurd e (by simp [gB]),fun _=> ⟨q0,by omega⟩⟩),au ⟨by rw [cw];omega,by rw [cw];omega⟩,wr (by omega)]
  have e:(bif (bif (bif (decide (x.kind=1))then(!(at' s.al x.index.toNat))else false)then true else(bif (decide (x.kind=2))then(!(at' s.ae x.index.toNat))else false))then true else(bif (decide (x.kind=3))then(!(at' s.ag x.index.toNat))else false))= !xg s x:=by
   unfold xg
   rcases q with⟨h,_⟩|⟨h,_⟩|⟨h,_⟩
   ·rw [h];simp
   ·rw [h];simp
   ·rw [h];simp
  rw [e]
  cases xg s x<;>rfl
 ·unfold ou
  dsimp only
  rw [jE (by omega)];rfl
end
def o7 (s:State) (ba:List Part):Nat->State
 |0=>s
 |n+1=>wG (o7 s ba n) (at' ba n) true
theorem VS.o7 {p:ah} {s:State} (hs:VS p s) (ba:List Part): ∀n,VS p (o7 s ba n)
 |0=>hs
 |n+1=>VS.wG (VS.o7 hs ba n) _ true
def KF (p:ah) (s:State) (l:List Transfer) (ba:List Part):State:=(Aq p (o7 s ba ba.length) l).1
section
variable {p:ah} {s:State} {l:List Transfer} (hp:VP p) (hs:VS p s) (hl:l.length<=16) (hx: ∀x∈l,Vk p x)
include hp hs hl hx
omit hl in
theorem Rc (ba:List Part):VS p (KF p s l ba):=(Ps hp hx (VS.o7 hs ba _)).1.vs
theorem ML {ba:List Part} (hn:ba.length<=1000) (hi: ∀x∈ba,mP p x):gG p s l ba=some (KF p s l ba,0)/\gD p s l ba=some (KF p s l ba,0):=by
 have z:FD p s l=0:=nD.2 ⟨hp,hs,hl,hx⟩
 have hS:=VS.o7 hs ba
 have z2: ∀n,FD p (o7 s ba n) l=0:=fun n=>nD.2 ⟨hp,hS n,hl,hx⟩
 unfold gG gD
 rw [vH p s l hp.small (by omega),nZ p s l hp.small,bs,bs,bx z,cD,bu,bu]
 have st: ∀n,n<ba.length->(0:Int)<=(n:Int)/\(n:Int)<(ba.length:Int):=fun n h=> ⟨by omega,by omega⟩
 have k1:=aU (body:=dF p ba) (fun n=>((o7 s ba n).ap,(o7 s ba n).aw,(o7 s ba n).ag,(o7 s ba n).on_,(o7 s ba n).ae,(o7 s ba n).am,(o7 s ba n).al,(n:Int))) ba.length (.brk ((o7 s ba ba.length).ap,(o7 s ba ba.length).aw,(o7 s ba ba.length).ag,(o7 s ba ba.length).on_,(o7 s ba ba.length).ae,(o7 s ba ba.length).am,(o7 s ba ba.length).al)) (fuel_lt (by omega)) (fun n hn'=>by
  unfold dF
  dsimp only
  rw [uM (by omega),bt,au (st n hn'),bw]
  unfold pE
  have:=L9 hp (hS n) (hi _ (at_mem hn')) true
  have this:iZ p ⟨(o7 s ba n).ap,(o7 s ba n).aw,(o7 s ba n).ag,(o7 s ba n).on_,(o7 s ba n).ae,(o7 s ba n).am,(o7 s ba n).al⟩ (at' ba n) true=_:=this
  rw [this,bs,bs,wr (by omega)];rfl) (by
  unfold dF
  dsimp only
  rw [jE (by omega)];rfl)
 have k2:=aU (body:=eU p ba) (fun n=>((o7 s ba n).ap,(o7 s ba n).aw,(o7 s ba n).ag,(o7 s ba n).on_,(o7 s ba n).ae,(o7 s ba n).am,(o7 s ba n).al,(n:Int))) ba.length (.brk ((o7 s ba ba.length).ap,(o7 s ba ba.length).aw,(o7 s ba ba.length).ag,(o7 s ba ba.length).on_,(o7 s ba ba.length).ae,(o7 s ba ba.length).am,(o7 s ba ba.length).al)) (fuel_lt (by omega)) (fun n hn'=>by
  unfold eU
  dsimp only
  rw [uM (by omega),bt,bw]
  have:=EN hp (hS n) (hi _ (at_mem hn')) true
  have this:gJ p ⟨(o7 s ba n).ap,(o7 s ba n).aw,(o7 s ba n).ag,(o7 s ba n).on_,(o7 s ba n).ae,(o7 s ba n).am,(o7 s ba n).al⟩ (at' ba n) true=_:=this
  rw [this,bs,au (st n hn'),wr (by omega)];rfl) (by
  unfold eU
  dsimp only
  rw [jE (by omega)];rfl)
 have k1:ay (dF p ba) FUEL (s.ap,s.aw,s.ag,s.on_,s.ae,s.am,s.al,0)=_:=k1
 have k2:ay (eU p ba) FUEL (s.ap,s.aw,s.ag,s.on_,s.ae,s.am,s.al,0)=_:=k2
 have e1:=LC p (o7 s ba ba.length) l hp.small (by omega)
 have e2:=Fj p (o7 s ba ba.length) l hp.small
 rw [ci (z2 _)]at e1 e2
 rw [k1,k2,bs,bs]
 dsimp only
 have e1:bG p ⟨(o7 s ba ba.length).ap,(o7 s ba ba.length).aw,(o7 s ba ba.length).ag,(o7 s ba ba.length).on_,(o7 s ba ba.length).ae,(o7 s ba ba.length).am,(o7 s ba ba.length).al⟩ l=_:=e1
 have e2:gM p ⟨(o7 s ba ba.length).ap,(o7 s ba ba.length).aw,(o7 s ba ba.length).ag,(o7 s ba ba.length).on_,(o7 s ba ba.length).ae,(o7 s ba ba.length).am,(o7 s ba ba.length).al⟩ l=_:=e2
 rw [e1,e2]
 exact⟨rfl,rfl⟩
def V4 (p:ah) (s:State) (l:List Transfer) (ba:List Part):List Int:=Az p (KF p s l ba) p.a_.length
theorem M8 {ba:List Part} (hn:ba.length<=1000) (hi: ∀x∈ba,mP p x):iN p s l ba=some (V4 p s l ba,0)/\jL p s l ba=some (V4 p s l ba,0):=by
 obtain⟨h1,h2⟩:=ML hp hs hl hx hn hi
 have hv:=Rc hp hs hx ba
 unfold iN jL
 rw [h1,h2,bs,bs,bx rfl,cD,bu,bu,Lv hp hv 0,E5 hp hv 0]
 exact⟨rfl,rfl⟩
end
end Sg
