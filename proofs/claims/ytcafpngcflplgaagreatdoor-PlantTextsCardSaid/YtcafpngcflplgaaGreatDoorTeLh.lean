import Derived.Test.YtcafpngcflplgaaGreatDoorTeLc
import Derived.Test.YtcafpngcflplgaaGreatDoorTeGm
import Derived.KernelRfl
import Derived.Test.YtcafpngcflplgaaGreatDoorTeLg
import Derived.Lib.AtoiTie
import Derived.Lib.ItoaLen
import Derived.Lib.IndexBytes
set_option linter.all false
namespace Sg
open Go
theorem wr {x:Int} (h: -9223372036854775808<=x/\x<=9223372036854775807):IntKind.wrap .i64 x=x:=by rw [IntKind.wrap_i64];omega
theorem uY {σ ρ:Type} {body:σ->Option (bK σ ρ)}: ∀{n m:Nat} {s:σ} {r:ρ},aH body n s=some r->n<=m->aH body m s=some r
 |0,_,_,_,h,_=>by cases h
 |n+1,0,_,_,_,hm=>by omega
 |n+1,m+1,s,r,h,hm=>by
  rw [ai]at h ⊢;revert h;cases body s with
  |none=>exact id
  |some f=>
   cases f with
   |next s'=>exact fun h=>uY h (by omega)
   |done r=>exact id
theorem KU {σ ρ:Type} {body:σ->Option (bK σ ρ)} (S:Nat->σ) (k:Nat) (hs: ∀i,i<k->body (S i)=some (.next (S (i+1)))): ∀(m:Nat),aH body (k+m) (S 0)=aH body m (S k):=by
 induction k with
 |zero=>intro m;simp
 |succ k ih=>
  intro m;have:=ih (fun i hi=>hs i (by omega)) (m+1);rw [show k+1+m=k+(m+1) by omega,this,ai,hs k (by omega)]
theorem eY {σ ρ:Type} {body:σ->Option (bK σ ρ)} {N:Nat} (S:Nat->σ) (k:Nat) (r:ρ) (hk:k<N) (hs: ∀i,i<k->body (S i)=some (.next (S (i+1)))) (hd:body (S k)=some (.done r)):aH body N (S 0)=some r:=by
 have h:=KU S k hs 1;have h1:aH body 1 (S k)=some r:=by rw [ai,hd]
 exact uY (h.trans h1) (by omega)
theorem fuel_lt {k:Nat} (h:k<=9223372036854775807):k<FUEL:=by unfold FUEL;omega
section
variable {α:Type} [Inhabited α]
theorem fM {l:List α} {i:Nat} (h:i<l.length):at' l i=l[i]:=by simp [at',h]
theorem at_mem {l:List α} {i:Nat} (h:i<l.length):at' l i∈l:=by rw [fM h];exact List.getElem_mem h
theorem jG {l:List α} {x:α} (h:x∈l): ∃i,i<l.length/\at' l i=x:=by
 obtain⟨i,hi,e⟩:=List.mem_iff_getElem.mp h;exact⟨i,hi,by rw [fM hi];exact e⟩
theorem Xy {l m:List α} (hl:l.length=m.length) (h: ∀i,i<l.length->at' l i=at' m i):l=m:=by
 apply List.ext_getElem hl;intro i h1 h2;have:=h i h1
 rwa [fM h1,fM h2]at this
theorem d9 {l:List α} {i:Nat} (h:i<l.length):l.take (i+1)=l.take i++[at' l i]:=by
 rw [fM h,List.take_succ_eq_append_getElem h]
theorem Aa {ρ:Type} {body:Int->Option (bK Int (Ex Unit ρ))} (l:List α) (bad:α->Bool) (f:Int->ρ) (hl:l.length<=9223372036854775807)
  (hb: ∀i:Nat,i<l.length->body i=some (bif bad (at' l i)then .done (.ret (f i))else .next ((i:Int)+1))) (he:body l.length=some (.done (.brk ()))):
  aH body FUEL 0=some (match l.findIdx? bad with|some i=> .ret (f i)|none=> .brk ()):=by
 cases h:l.findIdx? bad with
 |none=>
  rw [List.findIdx?_eq_none_iff]at h;refine eY (fun i=>(i:Int)) l.length _ (fuel_lt (by omega)) (fun i hi=> ?_) he;rw [hb i hi,h _ (at_mem hi)];simp
 |some k=>
  rw [List.findIdx?_eq_some_iff_getElem]at h;obtain⟨hk,hp,hn⟩:=h;refine eY (fun i=>(i:Int)) k _ (fuel_lt (by omega)) (fun i hi=> ?_) ?_
  ·have:=hn i hi;rw [hb i (by omega),fM (by omega)];simp [this]
  ·rw [hb k hk,fM hk,hp];rfl
omit [Inhabited α]in
theorem xw (l:List α) (bad:α->Bool):(decide ((0:Int)<=(match l.findIdx? bad with|some i=>(i:Int)|none=> -1)))=l.any bad:=by
 cases h:l.findIdx? bad with
 |none=>
  rw [List.findIdx?_eq_none_iff]at h;have:l.any bad=false:=by rw [c_];intro x hx;simp [h x hx]
  rw [this];simp
 |some k=>
  rw [List.findIdx?_eq_some_iff_getElem]at h;obtain⟨hk,hp,hn⟩:=h;have:l.any bad=true:=by rw [c8];exact⟨_,List.getElem_mem hk,hp⟩
  rw [this];simp
end
section
variable {α:Type}
end
theorem Cj {α:Type} (c:Bool) (x y:α):(bif c then some x else some y)=some (bif c then x else y):=by cases c<;>rfl
theorem gQ {ρ:Type} {body:Int->Option (bK Int (Ex Unit ρ))} (n:Nat) (bad:Nat->Bool) (f:Int->ρ) (hl:n<=9223372036854775807)
  (hb: ∀i:Nat,i<n->body i=some (bif bad i then .done (.ret (f i))else .next ((i:Int)+1))) (he:body n=some (.done (.brk ()))):
  aH body FUEL 0=some (match(List.range n).find? bad with|some i=> .ret (f i)|none=> .brk ()):=by
 cases h:(List.range n).find? bad with
 |none=>
  rw [List.find?_eq_none]at h;refine eY (fun i=>(i:Int)) n _ (fuel_lt (by omega)) (fun i hi=> ?_) he;rw [hb i hi];have:=h i (List.mem_range.mpr hi);simp at this;simp [this]
 |some k=>
  rw [List.find?_range_eq_some]at h;obtain⟨hp,hk,hn⟩:=h;rw [c7]at hk;refine eY (fun i=>(i:Int)) k _ (fuel_lt (by omega)) (fun i hi=> ?_) ?_
  ·have:=hn i hi;rw [hb i (by omega)];simp at this;simp [this]
  ·rw [hb k hk,hp];rfl
theorem tH {α:Type} (p:α->Bool): ∀l:List α,(l.find? p).isSome=l.any p
 |[]=>rfl
 |x::l=>by
  rw [List.any_cons,List.find?_cons];cases h:p x with
  |true=>simp
  |false=>simpa using tH p l
def wi (n a b:Int):Bool:=decide (a<=n) && decide (n<=b)
theorem Ao {n a b:Int}:wi n a b=true↔a<=n/\n<=b:=by simp [wi]
theorem um (n a b:Int):aU n a b=some (wi n a b):=by
 unfold aU wi;cases decide (a<=n)<;>rfl
def pJ (b:Int) (x:Source):Bool:=wi x.bus 0 (b - 1) && wi x.kind 1 3 && wi x.power 1 100000 && wi x.br 0 8 && wi x.ohm 10 100000
theorem Qh {b:Int} (hb:1<=b/\b<=24) (x:Source) (l1:List Source) (l2:List Link) (l3:List aF):lH x b l1 l2 l3=some (pJ b x):=by
 unfold lH pJ;simp only [um,bt];rw [wr (by omega)];generalize wi x.bus 0 (b - 1)=b1;generalize wi x.kind 1 3=b2;generalize wi x.power 1 100000=b3;generalize wi x.br 0 8=b4;generalize wi x.ohm 10 100000=b5;cases b1<;>cases b2<;>cases b3<;>cases b4<;>cases b5<;>rfl
def jA (l:List aQ) (i:Nat):Bool:=
 !wi (at' l i).bp 1 1000000|| !wi (at' l i).bi 1 100000||(decide (0<i) && (decide ((at' l i).bp<=(at' l (i - 1)).bp)||decide ((at' l (i - 1)).bi<=(at' l i).bi)))
def kK (b:Int) (x:Link):Bool:=
 wi x.a 0 (b - 1) && wi x.b 0 (b - 1) && !decide (x.a=x.b) && wi x.kind 1 3 && wi x.most 1 100000 && wi x.ohm 10 100000 && !(List.range x.trip.length).any (jA x.trip) && decide ((x.trip.length:Int)<=6) && (decide ((x.trip.length:Int)=0)||decide (x.kind=3))
theorem Pj {α:Type} [Inhabited α] (l:List α) (i:Nat) (h:0<i):at' l (((i:Int) - 1).toNat)=at' l (i - 1):=by
 congr 1;omega
theorem Ve (x:Link) (hx:x.trip.length<=9223372036854775807):aH (kQ x) FUEL 0=some (match(List.range x.trip.length).find? (jA x.trip)with|some _=> .ret false|none=> .brk ()):=by
 refine gQ x.trip.length (jA x.trip) (fun _=>false) hx (fun i hi=> ?_) ?_
 ·unfold kQ;have h1:decide ((i:Int)<(x.trip.length:Int))=true:=by simp;omega
  rw [h1,bu,aB (by omega)];simp only [um,bt,bx];rw [wr (x:=(i:Int) - 1) (by omega),wr (x:=(i:Int)+1) (by omega)];unfold jA;by_cases h0:0<i
  ·rw [Pj _ _ h0];simp only [h0,Int.natCast_pos,decide_true];generalize wi (at' x.trip i).bp 1 1000000=b1;generalize wi (at' x.trip i).bi 1 100000=b2;generalize decide ((at' x.trip i).bp<=(at' x.trip (i - 1)).bp)=b3;generalize decide ((at' x.trip (i - 1)).bi<=(at' x.trip i).bi)=b4;cases b1<;>cases b2<;>cases b3<;>cases b4<;>simp [gB,bA]<;>omega
  ·have:i=0:=by omega
   subst this;generalize wi (at' x.trip 0).bp 1 1000000=b1;generalize wi (at' x.trip 0).bi 1 100000=b2;cases b1<;>cases b2<;>simp [gB,bA]
 ·unfold kQ;have h1:decide ((x.trip.length:Int)<(x.trip.length:Int))=false:=by simp
  rw [h1];rfl
theorem UU {b:Int} (hb:1<=b/\b<=24) (x:Link) (hx:x.trip.length<=9223372036854775807) (l1:List Source) (l2:List Link) (l3:List aF):nO x b l1 l2 l3=some (kK b x):=by
 unfold nO kK;simp only [um,bt];rw [wr (by omega),Ve x hx];generalize wi x.a 0 (b - 1)=b1;generalize wi x.b 0 (b - 1)=b2;generalize decide (x.a=x.b)=b3;generalize wi x.kind 1 3=b4;generalize wi x.most 1 100000=b5;generalize wi x.ohm 10 100000=b6;have:(List.range x.trip.length).any (jA x.trip)=((List.range x.trip.length).find? (jA x.trip)).isSome:=(tH _ _).symm;rw [this];cases b1<;>cases b2<;>cases b3<;>cases b4<;>cases b5<;>cases b6<;>try rfl
 cases(List.range x.trip.length).find? (jA x.trip)with
 |some k=>simp [gB]
 |none=>
  simp only [gB,bt,Option.isSome_none];generalize decide ((x.trip.length:Int)<=6)=c1;generalize decide ((x.trip.length:Int)=0)=c2;generalize decide (x.kind=3)=c3;cases c1<;>cases c2<;>cases c3<;>rfl
def jF (x:aF):Int:=if x.bh.e1= -1 then 1 else 2
def kW (b:Int) (x:aF):Bool:=wi x.bh.e0 0 (b - 1) && wi x.bh.e1 (-1) (b - 1) && !decide (x.bh.e0=x.bh.e1) && wi x.power 1 100000 && wi x.bk 0 (jF x)
theorem Ux (x:aF):pq x=some (jF x):=by
 unfold pq jF;by_cases h:x.bh.e1= -1<;>simp [h]
theorem Wu {b:Int} (hb:1<=b/\b<=24) (x:aF) (l1:List Source) (l2:List Link) (l3:List aF):nQ x b l1 l2 l3=some (kW b x):=by
 unfold nQ kW;simp only [um,bt,Ux];rw [wr (by omega)];generalize wi x.bh.e0 0 (b - 1)=b1;generalize wi x.bh.e1 (-1) (b - 1)=b2;generalize decide (x.bh.e0=x.bh.e1)=b3;generalize hb4:wi x.power 1 100000=b4;cases b1<;>cases b2<;>cases b3<;>cases b4<;>simp [gB]<;>rfl
theorem xD {α ρ:Type} [Inhabited α] {l:List α} {i:Nat} (hi:i<l.length) (hl:l.length<=9223372036854775807) (b:Bool) (f:Int->ρ) (G:Option (bK Int (Ex Unit ρ))):
  (bif (decide ((i:Int)<(l.length:Int)))then((some b).bind fun r_=>bA ((0:Int)<=(i:Int)/\(i:Int)<(l.length:Int)) (bif r_ then some (.done (.ret (f (i:Int))))else some (.next (IntKind.wrap .i64 ((i:Int)+1)))))else G)=some (bif b then .done (.ret (f i))else .next ((i:Int)+1)):=by
 have h1:decide ((i:Int)<(l.length:Int))=true:=by simp;omega
 rw [h1,bu,bt,aB (by omega),wr (by omega)];cases b<;>rfl
theorem Un {b:Int} (hb:1<=b/\b<=24) (l:List Source) (hl:l.length<=9223372036854775807) (m:Int) (l1:List Source) (l2:List Link) (l3:List aF):
  qm l m b l1 l2 l3=some (decide ((l.length:Int)<=m) && l.all (pJ b)):=by
 have hs:iD l b l1 l2 l3=some (l.any fun x=> !pJ b x):=by
  unfold iD mQ;rw [Aa l (fun x=> !pJ b x) id hl (fun i hi=> ?_) ?_];·rw [<-xw];cases l.findIdx? fun x=> !pJ b x<;>rfl
  ·unfold kI;simp
  ·unfold kI qX;rw [bx,Qh hb,bt];exact xD hi hl _ id _
 unfold qm;rw [hs];have:(!l.any fun x=> !pJ b x)=l.all (pJ b):=by rw [List.not_any_eq_all_not];simp
 rw [<-this];cases decide ((l.length:Int)<=m)<;>simp [gB]
theorem Qv {b:Int} (hb:1<=b/\b<=24) (l:List Link) (hl:l.length<=9223372036854775807) (ht: ∀x∈l,x.trip.length<=9223372036854775807) (m:Int) (l1:List Source) (l2:List Link) (l3:List aF):
  nZ l m b l1 l2 l3=some (decide ((l.length:Int)<=m) && l.all (kK b)):=by
 have hs:fH l b l1 l2 l3=some (l.any fun x=> !kK b x):=by
  unfold fH kJ;rw [Aa l (fun x=> !kK b x) id hl (fun i hi=> ?_) ?_];·rw [<-xw];cases l.findIdx? fun x=> !kK b x<;>rfl
  ·unfold jl;simp
  ·unfold jl nU;rw [bx,UU hb _ (ht _ (at_mem hi)),bt];exact xD hi hl _ id _
 unfold nZ;rw [hs];have:(!l.any fun x=> !kK b x)=l.all (kK b):=by rw [List.not_any_eq_all_not];simp
 rw [<-this];cases decide ((l.length:Int)<=m)<;>simp [gB]
theorem Rj {b:Int} (hb:1<=b/\b<=24) (l:List aF) (hl:l.length<=9223372036854775807) (m:Int) (l1:List Source) (l2:List Link) (l3:List aF):
  nX l m b l1 l2 l3=some (decide ((l.length:Int)<=m) && l.all (kW b)):=by
 have hs:fJ l b l1 l2 l3=some (l.any fun x=> !kW b x):=by
  unfold fJ kM;rw [Aa l (fun x=> !kW b x) id hl (fun i hi=> ?_) ?_];·rw [<-xw];cases l.findIdx? fun x=> !kW b x<;>rfl
  ·unfold jm;simp
  ·unfold jm nH;rw [bx,Wu hb,bt];exact xD hi hl _ id _
 unfold nX;rw [hs];have:(!l.any fun x=> !kW b x)=l.all (kW b):=by rw [List.not_any_eq_all_not];simp
 rw [<-this];cases decide ((l.length:Int)<=m)<;>simp [gB]
structure Small (p:ah):Prop where
 src:p.aa.length<=9223372036854775807
 lnk:p.ac.length<=9223372036854775807
 rck:p.am.length<=9223372036854775807
 trp: ∀x∈p.ac,x.trip.length<=9223372036854775807
def fZ (p:ah):Int:=
 if wi p.ae 1 24=false then 10 else if(decide ((p.aa.length:Int)<=8) && p.aa.all (pJ p.ae))=false then 11
 else if(decide ((p.ac.length:Int)<=40) && p.ac.all (kK p.ae))=false then 12 else if(decide ((p.am.length:Int)<=24) && p.am.all (kW p.ae))=false then 13 else 0
theorem xM (p:ah) (hp:Small p):fI p=some (fZ p):=by
 unfold fI fZ;simp only [um,bt,qP,vF,uS];cases h0:wi p.ae 1 24 with
 |false=>simp
 |true=>
  have hb:=Ao.mp h0;rw [Un hb _ hp.src,Qv hb _ hp.lnk hp.trp,Rj hb _ hp.rck];simp only [bt,cE,bv];generalize (decide ((p.aa.length:Int)<=8) && p.aa.all (pJ p.ae))=b1;generalize (decide ((p.ac.length:Int)<=40) && p.ac.all (kK p.ae))=b2;generalize (decide ((p.am.length:Int)<=24) && p.am.all (kW p.ae))=b3;cases b1<;>cases b2<;>cases b3<;>simp
def jk (p:ah) (s:State):Bool:=
 decide (s.a_.length=p.ac.length) && decide (s.ba.length=p.ac.length) && decide (s.aq.length=p.ac.length) && decide (s.on_.length=p.aa.length) && decide (s.ag.length=p.aa.length) && decide ((s.aw.length:Int)=p.ae) && decide ((s.ap.length:Int)=p.ae)
def eX (p:ah) (s:State) (i:Nat):Bool:=decide ((at' p.ac i).kind=1) && (!at' s.a_ i||at' s.ba i)
def ol (p:ah) (s:State):Int:=if fZ p≠0 then fZ p else if jk p s && !(List.range p.ac.length).any (eX p s)then 0 else 9
theorem o8 (p:ah) (s:State) (hp:Small p):bT p s=some (ol p s):=by
 unfold bT ol;rw [xM p hp,bt];by_cases hc:fZ p=0
 ·rw [hc];simp only [decide_true,cE,bv,ne_eq,not_true_eq_false,if_false];have h0:aH (iE p s) FUEL 0=some (bif jk p s then .brk ()else .ret 9):=by
   have key:=gQ (body:=iE p s) 7 (fun i=> !decide (((at' [(⟨s.a_,(p.ac.length:Int)⟩:dw),(⟨s.ba,(p.ac.length:Int)⟩:dw),(⟨s.aq,(p.ac.length:Int)⟩:dw),(⟨s.on_,(p.aa.length:Int)⟩:dw),(⟨s.ag,(p.aa.length:Int)⟩:dw),(⟨s.aw,p.ae⟩:dw),(⟨s.ap,p.ae⟩:dw)] i).l.length:Int)=(at' [(⟨s.a_,(p.ac.length:Int)⟩:dw),(⟨s.ba,(p.ac.length:Int)⟩:dw),(⟨s.aq,(p.ac.length:Int)⟩:dw),(⟨s.on_,(p.aa.length:Int)⟩:dw),(⟨s.ag,(p.aa.length:Int)⟩:dw),(⟨s.aw,p.ae⟩:dw),(⟨s.ap,p.ae⟩:dw)] i).n)) (fun _=>(9:Int)) (by omega) (fun i hi=> ?_) ?_
   ·rw [key];have e:((List.range 7).find? fun i=> !decide (((at' [(⟨s.a_,(p.ac.length:Int)⟩:dw),(⟨s.ba,(p.ac.length:Int)⟩:dw),(⟨s.aq,(p.ac.length:Int)⟩:dw),(⟨s.on_,(p.aa.length:Int)⟩:dw),(⟨s.ag,(p.aa.length:Int)⟩:dw),(⟨s.aw,p.ae⟩:dw),(⟨s.ap,p.ae⟩:dw)] i).l.length:Int)=(at' [(⟨s.a_,(p.ac.length:Int)⟩:dw),(⟨s.ba,(p.ac.length:Int)⟩:dw),(⟨s.aq,(p.ac.length:Int)⟩:dw),(⟨s.on_,(p.aa.length:Int)⟩:dw),(⟨s.ag,(p.aa.length:Int)⟩:dw),(⟨s.aw,p.ae⟩:dw),(⟨s.ap,p.ae⟩:dw)] i).n)).isSome= !jk p s:=by
     rw [show List.range 7=[0,1,2,3,4,5,6]from rfl,tH];simp only [List.any_cons,List.any_nil,at',List.getD_cons_zero,List.getD_cons_succ,jk,Int.natCast_inj];simp [Bool.or_assoc]
    revert e;cases hf:(List.range 7).find? _ with
    |none=>
     intro e;have:jk p s=true:=by simpa using e.symm
     rw [this];rfl
    |some k=>
     intro e;have:jk p s=false:=by simpa using e.symm
     rw [this];rfl
   ·have h1:decide ((i:Int)<7)=true:=by simp;omega
    unfold iE;rw [show([(⟨s.a_,(p.ac.length:Int)⟩:dw),(⟨s.ba,(p.ac.length:Int)⟩:dw),(⟨s.aq,(p.ac.length:Int)⟩:dw),(⟨s.on_,(p.aa.length:Int)⟩:dw),(⟨s.ag,(p.aa.length:Int)⟩:dw),(⟨s.aw,p.ae⟩:dw),(⟨s.ap,p.ae⟩:dw)].length:Int)=7 from rfl,h1,bu,aB (by omega),bx,wr (by omega)];exact Cj _ _ _
   ·rfl
  rw [h0,bt];cases hL:jk p s with
  |false=>rfl
  |true=>
   simp only [bu,cQ];simp only [jk,ce,dg]at hL;have h1:aH (iH p s) FUEL 0=some (match(List.range p.ac.length).find? (eX p s)with|some _=> .ret 9|none=> .brk ()):=by
    refine gQ p.ac.length (eX p s) (fun _=>9) hp.lnk (fun i hi=> ?_) ?_
    ·unfold iH eX;have h1:decide ((i:Int)<(p.ac.length:Int))=true:=by simp;omega
     have:=hp.lnk;rw [h1,bu,aB (by omega),bx,wr (by omega),aB ⟨fun _=>by omega,fun _=>by omega⟩];generalize decide ((at' p.ac i).kind=1)=b1;generalize at' s.a_ i=b2;generalize at' s.ba i=b3;cases b1<;>cases b2<;>cases b3<;>rfl
    ·unfold iH;simp
   rw [h1,bt];have:(List.range p.ac.length).any (eX p s)=((List.range p.ac.length).find? (eX p s)).isSome:=(tH _ _).symm;rw [this];cases(List.range p.ac.length).find? (eX p s)<;>rfl
 ·have:decide (fZ p=0)=false:=by simp [hc]
  rw [this];simp [hc]
structure VL (b:Int) (x:Link):Prop where
 a:0<=x.a/\x.a<b
 b:0<=x.b/\x.b<b
 ab:x.a≠x.b
 kind:1<=x.kind/\x.kind<=3
 most:1<=x.most/\x.most<=100000
 ohm:10<=x.ohm/\x.ohm<=100000
 tl:x.trip.length<=6
 trip: ∀i,i<x.trip.length->jA x.trip i=false
 trk:x.trip=[]\/x.kind=3
structure Ya (b:Int) (x:Source):Prop where
 bus:0<=x.bus/\x.bus<b
 kind:1<=x.kind/\x.kind<=3
 power:1<=x.power/\x.power<=100000
 br:0<=x.br/\x.br<=8
 ohm:10<=x.ohm/\x.ohm<=100000
structure VR (b:Int) (x:aF):Prop where
 e0:0<=x.bh.e0/\x.bh.e0<b
 e1: -1<=x.bh.e1/\x.bh.e1<b
 ne:x.bh.e0≠x.bh.e1
 power:1<=x.power/\x.power<=100000
 bk:0<=x.bk/\x.bk<=jF x
structure VP (p:ah):Prop where
 b:1<=p.ae/\p.ae<=24
 sl:p.aa.length<=8
 src: ∀i,i<p.aa.length->Ya p.ae (at' p.aa i)
 ll:p.ac.length<=40
 lnk: ∀i,i<p.ac.length->VL p.ae (at' p.ac i)
 rl:p.am.length<=24
 rck: ∀i,i<p.am.length->VR p.ae (at' p.am i)
structure VS (p:ah) (s:State):Prop where
 a_:s.a_.length=p.ac.length
 ba:s.ba.length=p.ac.length
 aq:s.aq.length=p.ac.length
 on:s.on_.length=p.aa.length
 ag:s.ag.length=p.aa.length
 aw:(s.aw.length:Int)=p.ae
 ap:(s.ap.length:Int)=p.ae
 cable: ∀i,i<p.ac.length->(at' p.ac i).kind=1->at' s.a_ i=true/\at' s.ba i=false
theorem Jo {b:Int} {x:Source}:pJ b x=true↔Ya b x:=by
 simp only [pJ,ce,Ao];exact⟨fun⟨⟨⟨⟨h1,h2⟩,h3⟩,h4⟩,h5⟩=> ⟨by omega,h2,h3,h4,h5⟩,fun h=> ⟨⟨⟨⟨by have:=h.bus;omega,h.kind⟩,h.power⟩,h.br⟩,h.ohm⟩⟩
theorem ET {b:Int} {x:aF}:kW b x=true↔VR b x:=by
 simp only [kW,ce,Ao,db,dd];exact⟨fun⟨⟨⟨⟨h1,h2⟩,h3⟩,h4⟩,h5⟩=> ⟨by omega,by omega,h3,h4,h5⟩,fun h=> ⟨⟨⟨⟨by have:=h.e0;omega,by have:=h.e1;omega⟩,h.ne⟩,h.power⟩,h.bk⟩⟩
theorem FJ {b:Int} {x:Link}:kK b x=true↔VL b x:=by
 simp only [kK,ce,Ao,db,dd,cP,dg,c_,c7,Bool.not_eq_true];constructor
 ·rintro ⟨⟨⟨⟨⟨⟨⟨⟨h1,h2⟩,h3⟩,h4⟩,h5⟩,h6⟩,h7⟩,h8⟩,h9⟩;exact⟨by omega,by omega,h3,h4,h5,h6,by omega,h7,h9.imp (fun h=>List.eq_nil_of_length_eq_zero (by omega)) id⟩
 ·intro h;refine⟨⟨⟨⟨⟨⟨⟨⟨by have:=h.a;omega,by have:=h.b;omega⟩,h.ab⟩,h.kind⟩,h.most⟩,h.ohm⟩,h.trip⟩,by have:=h.tl;omega⟩,h.trk.imp (fun e=>by simp [e]) id⟩
theorem fq {p:ah}:fZ p=0↔VP p:=by
 unfold fZ;constructor
 ·intro h;cases h0:wi p.ae 1 24 with
  |false=>rw [h0]at h;simp at h
  |true=>
   rw [h0]at h;cases h1:(decide ((p.aa.length:Int)<=8) && p.aa.all (pJ p.ae))with
   |false=>rw [h1]at h;simp at h
   |true=>
    rw [h1]at h;cases h2:(decide ((p.ac.length:Int)<=40) && p.ac.all (kK p.ae))with
    |false=>rw [h2]at h;simp at h
    |true=>
     rw [h2]at h;cases h3:(decide ((p.am.length:Int)<=24) && p.am.all (kW p.ae))with
     |false=>rw [h3]at h;simp at h
     |true=>
      simp only [ce,dg,List.all_eq_true]at h1 h2 h3;exact⟨Ao.mp h0,by omega,fun i hi=>Jo.mp (h1.2 _ (at_mem hi)),by omega,fun i hi=>FJ.mp (h2.2 _ (at_mem hi)),by omega,fun i hi=>ET.mp (h3.2 _ (at_mem hi))⟩
 ·intro h;have h0:wi p.ae 1 24=true:=Ao.mpr h.b;have h1:(decide ((p.aa.length:Int)<=8) && p.aa.all (pJ p.ae))=true:=by
   simp only [ce,dg,List.all_eq_true];exact⟨by have:=h.sl;omega,fun x hx=>by obtain⟨i,hi,rfl⟩:=jG hx;exact Jo.mpr (h.src i hi)⟩
  have h2:(decide ((p.ac.length:Int)<=40) && p.ac.all (kK p.ae))=true:=by
   simp only [ce,dg,List.all_eq_true];exact⟨by have:=h.ll;omega,fun x hx=>by obtain⟨i,hi,rfl⟩:=jG hx;exact FJ.mpr (h.lnk i hi)⟩
  have h3:(decide ((p.am.length:Int)<=24) && p.am.all (kW p.ae))=true:=by
   simp only [ce,dg,List.all_eq_true];exact⟨by have:=h.rl;omega,fun x hx=>by obtain⟨i,hi,rfl⟩:=jG hx;exact ET.mpr (h.rck i hi)⟩
  rw [h0,h1,h2,h3];rfl
theorem VP.small {p:ah} (h:VP p):Small p:=by
 refine⟨by have:=h.sl;omega,by have:=h.ll;omega,by have:=h.rl;omega,fun x hx=> ?_⟩;obtain⟨i,hi,rfl⟩:=jG hx;have:=(h.lnk i hi).tl;omega
theorem jR {p:ah} {s:State}:ol p s=0↔VP p/\VS p s:=by
 unfold ol;by_cases hc:fZ p=0
 ·rw [ci (by simp [hc])];have hv:=fq.mp hc;constructor
  ·intro h;cases h1:(jk p s && !(List.range p.ac.length).any (eX p s))with
   |false=>rw [h1]at h;simp at h
   |true=>
    simp only [jk,ce,dg,db,c_,c7,eX,cP,not_and,not_or,Bool.not_eq_true]at h1;obtain⟨⟨⟨⟨⟨⟨⟨h1,h2⟩,h3⟩,h4⟩,h5⟩,h6⟩,h7⟩,h8⟩:=h1;exact⟨hv,h1,h2,h3,h4,h5,h6,h7,fun i hi hk=>by have:=h8 i hi hk;simpa using this⟩
  ·rintro ⟨_,h⟩;have:(jk p s && !(List.range p.ac.length).any (eX p s))=true:=by
    simp only [jk,ce,dg,db,c_,c7,eX,cP,not_and,not_or,Bool.not_eq_true];exact⟨⟨⟨⟨⟨⟨⟨h.a_,h.ba⟩,h.aq⟩,h.on⟩,h.ag⟩,h.aw⟩,h.ap⟩,fun i hi hk=>by have:=h.cable i hi hk;simpa using this⟩
   rw [this];rfl
 ·rw [cj hc];exact⟨fun h=>absurd h hc,fun h=>absurd (fq.mpr h.1) hc⟩
theorem BL {α:Type} [Inhabited α] {ρ:Type} {body:Int->Option (bK Int (Ex Unit ρ))} (l:List α) (hl:l.length<=9223372036854775807) (hb: ∀t:Nat,t<l.length->body (t:Int)=some (.next ((t:Int)+1))) (he:body (l.length:Int)=some (.done (.brk ()))):aH body FUEL 0=some (.brk ()):=
 eY (fun t=>(t:Int)) l.length _ (fuel_lt hl) (fun t ht=>by rw [hb t ht];rfl) he
theorem ji (a b:List Bool) (ha:a.length<=9223372036854775807):dI a b=some (decide (a=b)):=by
 unfold dI;by_cases hl:a.length=b.length
 ·have h1:decide ((a.length:Int)=(b.length:Int))=true:=bz (by omega);rw [h1];simp only [cE,bv];have key:aH (jy a b) FUEL 0=some (match(List.range a.length).find? (fun i=> !(at' a i==at' b i))with|some _=> .ret false|none=> .brk ()):=by
   refine gQ a.length (fun i=> !(at' a i==at' b i)) (fun _=>false) ha (fun i hi=> ?_) ?_
   ·unfold jy;have h1:decide ((i:Int)<(a.length:Int))=true:=bz (by omega);rw [h1,bu,aB (by omega),bx,wr (by omega)];exact Cj _ _ _
   ·unfold jy;simp
  rw [key];cases hf:(List.range a.length).find? (fun i=> !(at' a i==at' b i))with
  |none=>
   rw [List.find?_eq_none]at hf;have:a=b:=Xy hl fun i hi=>by
    have:=hf i (List.mem_range.mpr hi);simpa using this
   simp [this]
  |some k=>
   have hk:=List.mem_of_find?_eq_some hf;have hp:=List.find?_some hf;have:a≠b:=by intro e;subst e;simp at hp
   simp [this]
 ·have h1:decide ((a.length:Int)=(b.length:Int))=false:=b_ (by omega);have h2:a≠b:=fun e=>hl (by rw [e]);rw [h1];simp [h2]
structure WO (s:State):Prop where
 l0:s.a_.length<=140737488351232
 l1:s.ba.length<=140737488351232
 l2:s.aq.length<=140737488351232
 l3:s.on_.length<=140737488351232
 l4:s.ag.length<=140737488351232
 l5:s.aw.length<=140737488351232
 l6:s.ap.length<=140737488351232
theorem xO (a:State) (h:WO a):iK a a=some true:=by
 obtain⟨h0,h1,h2,h3,h4,h5,h6⟩:=h;unfold iK;rw [ji _ _ (by omega),ji _ _ (by omega),ji _ _ (by omega),ji _ _ (by omega),ji _ _ (by omega),ji _ _ (by omega),ji _ _ (by omega)];simp [gB]
theorem VS.room {p:ah} {s:State} (hp:VP p) (h:VS p s):WO s:=by
 have h1:=hp.ll;have h2:=hp.sl;have h3:=hp.b;obtain⟨a1,a2,a3,a4,a5,a6,a7,_⟩:=h;exact⟨by omega,by omega,by omega,by omega,by omega,by omega,by omega⟩
theorem EN:pz=some true:=by kernel_rfl
theorem LD {c:UInt8} {s:List UInt8} (h:c ∉ s):Lib.index s [c]= -1:=by
 rw [Lib.index_one];induction s with
 |nil=>rfl
 |cons b l ih=>
  have hb:b≠c:=fun e=>h (e ▸ cw);have hl:c ∉ l:=fun e=>h (ct _ e);unfold Lib.indexByte;simp [hb,ih hl]
theorem PV {c:UInt8} {a r:List UInt8} (h:c ∉ a):Lib.index (a++c::r) [c]=(a.length:Int):=by
 rw [Lib.index_one];induction a with
 |nil=>simp [Lib.indexByte]
 |cons b l ih=>
  have hb:b≠c:=fun e=>h (e ▸ cw);have hl:c ∉ l:=fun e=>h (ct _ e);rw [d8,Lib.indexByte,ih hl];have h1: ¬ ((l.length:Int)== -1)=true:=by rw [beq_iff_eq];omega
  have h2: ¬ (b==c)=true:=by rw [beq_iff_eq];exact hb
  rw [ci h2,ci h1];simp
theorem vE {c:UInt8} {a r:List UInt8} (h:c ∉ a):Lib.cut (a++c::r) [c]=(a,r,true):=by
 unfold Lib.cut;rw [PV h,cj (by omega)];simp
theorem xX {c:UInt8} {s:List UInt8} (h:c ∉ s):Lib.cut s [c]=(s,[],false):=by
 unfold Lib.cut;rw [LD h,ci (by omega)]
def aM (c:UInt8):List UInt8->List (List UInt8)
 |[]=>[[]]
 |b::l=>if b=c then []::aM c l else(b::(aM c l).headD [])::(aM c l).tail
def joinL (c:UInt8):List (List UInt8)->List UInt8
 |[]=>[]
 |[w]=>w
 |w::v::ws=>w++c::joinL c (v::ws)
theorem oM {c:UInt8}: ∀{s:List UInt8},c ∉ s->aM c s=[s]
 |[],_=>rfl
 |b::l,h=>by
  have hb:b≠c:=fun e=>h (e ▸ cw);have hl:c ∉ l:=fun e=>h (ct _ e);rw [aM,ci hb,oM hl];rfl
theorem lK {c:UInt8} {r:List UInt8}: ∀{a:List UInt8},c ∉ a->aM c (a++c::r)=a::aM c r
 |[],_=>by rw [cX,aM,cj rfl]
 |b::l,h=>by
  have hb:b≠c:=fun e=>h (e ▸ cw);have hl:c ∉ l:=fun e=>h (ct _ e);rw [d8,aM,ci hb,lK hl];rfl
theorem Cu (c:UInt8) (s:List UInt8):aM c s≠[]:=by
 cases s with
 |nil=>intro h;cases h
 |cons b l=>rw [aM];split<;>(intro h;cases h)
theorem yO (c:UInt8) {P:List UInt8->Prop} (h0: ∀s,c ∉ s->P s) (h1: ∀a r,c ∉ a->P r->P (a++c::r)): ∀(n:Nat) (s:List UInt8),s.length<=n->P s
 |n,s,hn=>by
  by_cases h:c∈s
  ·obtain⟨a,r,rfl,ha⟩:=List.eq_append_cons_of_mem h
   match n,hn with
   |0,hn=>simp at hn
   |n+1,hn=>exact h1 a r ha (yO c h0 h1 n r (by simp at hn;omega))
  ·exact h0 s h
theorem join_cons (c:UInt8) (w:List UInt8) {ws:List (List UInt8)} (h:ws≠[]):joinL c (w::ws)=w++c::joinL c ws:=by
 cases ws with
 |nil=>exact absurd rfl h
 |cons v vs=>rfl
theorem EL (s:ByteArray):sb s.data.toList=s:=by
 obtain⟨⟨l⟩⟩:=s;rfl
theorem zH {a b:List UInt8} (h:sb a=sb b):a=b:=by
 have:=congrArg (fun s:ByteArray=>s.data.toList) h;simpa [sb]using this
theorem aW (l:List UInt8):(sb l).size=l.length:=by simp [sb,ByteArray.size]
theorem oV (l:List UInt8):(sb l).data.toList=l:=by simp [sb]
theorem JD (c:UInt8): ∀(k:Nat) (s:ByteArray),Lib.countB s ⟨#[c]⟩=k->Lib.splitB ⟨#[c]⟩ 0 k s=(aM c s.data.toList).map sb
 |k,s,hk=>by
  have hcnt:s.data.toList.count c=k:=by
   rw [<-hk];exact(Lib.count_one c _).symm
  by_cases h:c∈s.data.toList
  ·obtain⟨a,r,e,ha⟩:=List.eq_append_cons_of_mem h
   match k,hk,hcnt with
   |0,_,hcnt=>rw [List.count_eq_zero]at hcnt;exact absurd h hcnt
   |k+1,hk,hcnt=>
    have hi:Lib.indexB s ⟨#[c]⟩=((a.length:Nat):Int):=by
     show Lib.index s.data.toList [c]=_;rw [e,PV ha]
    have hsz:s.size=a.length+(1+r.length):=by
     have:=congrArg List.length e;simp at this;omega
    have e1:(s.extract 0 (a.length+0))=sb a:=by
     rw [<-EL (s.extract 0 (a.length+0)),Lib.extract_data,e];simp
    have e2:(s.extract (a.length+(⟨#[c]⟩:ByteArray).size) s.size)=sb r:=by
     rw [<-EL (s.extract _ _),Lib.extract_data,e,hsz];have:(⟨#[c]⟩:ByteArray).size=1:=rfl;rw [this];simp only [eW,List.drop_eq_nil_of_le (show a.length<=a.length+1 by omega),cX];rw [show a.length+1 - a.length=1 by omega,List.drop_one,List.tail_cons,List.take_of_length_le (by omega)]
    rw [Lib.splitB_hit _ _ _ _ _ hi,e1,e2,JD c k (sb r),e,lK ha,oV];·rfl
    ·show Lib.count (sb r).data.toList [c]=k;rw [Lib.count_one,oV];rw [e,List.count_append,List.count_cons_self,List.count_eq_zero.2 ha]at hcnt;omega
  ·have hi:Lib.indexB s ⟨#[c]⟩= -1:=by
    show Lib.index s.data.toList [c]= -1;exact LD h
   rw [Lib.splitB_miss _ _ _ _ hi,oM h,cM,EL];rfl
 termination_by k=>k
theorem ML {c:UInt8} {s:ByteArray} (hs:s.size<4294967281):iM s ⟨#[c]⟩=some ((aM c s.data.toList).map sb):=by
 unfold iM;rw [bz hs];show some (Lib.splitB _ 0 _ _)=_;rw [JD c _ s rfl]
theorem Ca (b:UInt8): ∀(l:List UInt8) (acc:Nat),Lib.decFrom acc (l++[b])=(Lib.decFrom acc l).bind fun n=>(Lib.digitVal b).map fun d=>n*10+d
 |[],acc=>by
  simp only [cX,Lib.decFrom,bt];cases Lib.digitVal b<;>rfl
 |x::l,acc=>by
  rw [d8,Lib.decFrom,Lib.decFrom];cases Lib.digitVal x with
  |none=>rfl
  |some d=>exact Ca b l _
theorem M4 {u:Nat} (h:u<10):Lib.digitVal (UInt8.ofNat (48+u))=some u:=by
 have e:(UInt8.ofNat (48+u)).toNat=48+u:=by rw [UInt8.toNat_ofNat'];omega
 unfold Lib.digitVal;rw [e,cj ⟨by omega,by omega⟩];congr 1;omega
theorem nT (u:Nat):Lib.decFrom 0 (Lib.decDigits u)=some u:=by
 induction u using Nat.strongRecOn with
 |_ u ih=>
  rw [Lib.decDigits];split
  ·rename_i h;simp only [Lib.decFrom,M4 h,Nat.zero_mul,cD]
  ·rename_i h;rw [Ca,ih (u / 10) (by omega),bt,M4 (eN _ (by decide))];show some (u / 10*10+u % 10)=some u;congr 1;omega
theorem yJ (u:Nat):Lib.decDigits u≠[]:=by
 rw [Lib.decDigits];split;·simp
 ·simp
theorem AR (u:Nat): ∀b,b∈Lib.decDigits u->48<=b.toNat/\b.toNat<=57:=by
 have key: ∀v,v<10->48<=(UInt8.ofNat (48+v)).toNat/\(UInt8.ofNat (48+v)).toNat<=57:=fun v hv=>by
  rw [UInt8.toNat_ofNat'];omega
 induction u using Nat.strongRecOn with
 |_ u ih=>
  intro b hb;rw [Lib.decDigits]at hb;split at hb
  ·rename_i h;rw [cG]at hb;subst hb;exact key u h
  ·rename_i h;rcases cA.1 hb with hb|hb
   ·exact ih (u / 10) (by omega) b hb
   ·rw [cG]at hb;subst hb;exact key _ (eN _ (by decide))
theorem Bn: ∀(k u:Nat),u<10 ^ (k+1)->Lib.nDigits u<=k+1
 |0,u,h=>by rw [Lib.nDigits_small (by simpa using h)];omega
 |k+1,u,h=>by
  by_cases h1:u<10;·rw [Lib.nDigits_small h1];omega
  ·rw [Lib.nDigits_big h1];have:=Bn k (u / 10) (by rw [Nat.pow_succ]at h;omega);omega
theorem Qt (v:Int):Lib.atoi (Lib.itoa v)=some v:=by
 unfold Lib.itoa;split
 ·rename_i h;show Option.map (fun m:Nat=> -(m:Int)) (Lib.decNat (Lib.decDigits v.natAbs))=some v;rw [Lib.decNat,ci (by simp [yJ]),nT];show some (-((v.natAbs:Nat):Int))=some v;congr 1;omega
 ·rename_i h;have hne:=yJ v.toNat;have hm:=AR v.toNat;have hd:Lib.decNat (Lib.decDigits v.toNat)=some v.toNat:=by
   rw [Lib.decNat,ci (by simp [hne]),nT]
  cases hl:Lib.decDigits v.toNat with
  |nil=>exact absurd hl hne
  |cons b r=>
   rw [hl]at hm hd;have hb:=hm b cw;have h1: ¬ (b==45)=true:=by rw [beq_iff_eq];intro e;subst e;simp at hb
   have h2: ¬ (b==43)=true:=by rw [beq_iff_eq];intro e;subst e;simp at hb
   unfold Lib.atoi;simp only [h1,h2,if_false,hd,Option.map_some,Bool.false_eq_true];congr 1;omega
theorem Mi {v:Int} (h: -999999999<=v/\v<=999999999):(Lib.itoa v).length<=10/\(Lib.trimPrefix (Lib.itoa v) [45]).length<=9:=by
 unfold Lib.itoa;split
 ·have hn:=Bn 8 v.natAbs (by omega);have e:Lib.trimPrefix (45::Lib.decDigits v.natAbs) [45]=Lib.decDigits v.natAbs:=by
   unfold Lib.trimPrefix;simp [Lib.hasPrefix]
  rw [e,cY,Lib.decDigits_length];omega
 ·have hn:=Bn 8 v.toNat (by omega);have hl:(Lib.decDigits v.toNat).length<=9:=by rw [Lib.decDigits_length];omega
  refine⟨by omega, ?_⟩;unfold Lib.trimPrefix;split;·rw [ea];omega
  ·exact hl
theorem OV {v:Int} (h: -999999999<=v/\v<=999999999):numOf (sb (Lib.itoa v))=some v:=by
 have hl:=Mi h;unfold numOf;rw [oV,Lib.atoiAll_short _ (by omega),Qt];show(bif decide (sb (Lib.itoa v)=sb (Lib.itoa v)) && decide ((Lib.trimPrefix (Lib.itoa v) [45]).length<=9)then some v else none)=some v;rw [bz rfl,bz hl.2];rfl
theorem OO {s:ByteArray} {v:Int} (h:numOf s=some v):s=sb (Lib.itoa v):=by
 unfold numOf at h;split at h
 ·rename_i u hu;cases h1:decide (sb (Lib.itoa u)=s)with
  |false=>rw [h1]at h;cases h
  |true=>
   rw [h1,cQ]at h;cases h2:decide ((Lib.trimPrefix s.data.toList [45]).length<=9)with
   |false=>rw [h2]at h;cases h
   |true=>rw [h2]at h;cases h;exact(of_decide_eq_true h1).symm
 ·cases h
theorem Py (a b:Bool):(bif a then true else b)=(a||b):=by cases a<;>rfl
theorem ZJ {a b:Int} (h:a<b):decide (a<b)=true:=bz h
theorem Wz {a b:Int} (h:b<=a):decide (a<b)=false:=b_ (by omega)
def RZ (p:ah):Bool:=decide (60<(p.aa.length:Int))||decide (60<(p.ac.length:Int))||decide (60<(p.am.length:Int))||p.ac.any fun x=>decide (20<(x.trip.length:Int))
theorem XI (p:ah):r9 p=some (RZ p):=by
 unfold r9 RZ;rw [Py,Py];cases h:(decide (60<(p.aa.length:Int))||decide (60<(p.ac.length:Int))||decide (60<(p.am.length:Int)))with
 |true=>rfl
 |false=>
  rw [bv,Bool.false_or];simp only [eo,dd]at h;have key:aH (oh p) FUEL 0=some (match(List.range p.ac.length).find? (fun i=>decide (20<((at' p.ac i).trip.length:Int)))with|some _=> .ret true|none=> .brk ()):=by
   refine gQ p.ac.length (fun i=>decide (20<((at' p.ac i).trip.length:Int))) (fun _=>true) (by omega) (fun i hi=> ?_) ?_
   ·unfold oh;rw [ZJ (by omega),bu,aB (by omega),bx,wr (by omega)];exact Cj _ _ _
   ·unfold oh;simp
  rw [key];cases hf:(List.range p.ac.length).find? (fun i=>decide (20<((at' p.ac i).trip.length:Int)))with
  |none=>
   rw [List.find?_eq_none]at hf;have:(p.ac.any fun x=>decide (20<(x.trip.length:Int)))=false:=by
    rw [c_];intro x hx;obtain⟨i,hi,e⟩:=jG hx;have:=hf i (List.mem_range.mpr hi);rw [e]at this;exact this
   rw [this];rfl
  |some i=>
   have hi:=c7.1 (List.mem_of_find?_eq_some hf);have hq:=List.find?_some hf;have:(p.ac.any fun x=>decide (20<(x.trip.length:Int)))=true:=c8.2 ⟨_,at_mem hi,hq⟩;rw [this];rfl
structure RJ (p:ah):Prop where
 src:p.aa.length<=60
 lnk:p.ac.length<=60
 rck:p.am.length<=60
 trp: ∀x∈p.ac,x.trip.length<=20
theorem aas {p:ah} (h:RZ p=false):RJ p:=by
 unfold RZ at h;simp only [eo,dd]at h;obtain⟨⟨⟨h1,h2⟩,h3⟩,h4⟩:=h;rw [c_]at h4;exact⟨by omega,by omega,by omega,fun x hx=>by have:=h4 x hx;simp only [dg]at this;omega⟩
theorem RJ.small {p:ah} (h:RJ p):Small p:=⟨by have:=h.src;omega,by have:=h.lnk;omega,by have:=h.rck;omega,fun x hx=>by have:=h.trp x hx;omega⟩
theorem Dr (l:List Source) (h:l.length<=1000000):kR l l=some true:=by
 have key:aH (iU l l) FUEL 0=some (.brk ()):=by
  refine BL l (by omega) (fun t ht=> ?_) ?_
  ·unfold iU;rw [ZJ (by omega),bu,aB ⟨by omega,by omega⟩,wr (by omega)];simp
  ·unfold iU;rw [Wz (by omega)];rfl
 unfold kR;simp [key]
theorem Gu (l:List aQ) (h:l.length<=1000000):mI l l=some true:=by
 have key:aH (jW l l) FUEL 0=some (.brk ()):=by
  refine BL l (by omega) (fun t ht=> ?_) ?_
  ·unfold jW;rw [ZJ (by omega),bu,aB ⟨by omega,by omega⟩,wr (by omega)];simp
  ·unfold jW;rw [Wz (by omega)];rfl
 unfold mI;simp [key]
theorem Hu (x:Link) (h:x.trip.length<=1000000):nD x x=some true:=by
 unfold nD;simp only [decide_true,bu];rw [show gB [(true,true)]=true from rfl,bu,Gu _ h];rfl
theorem Gp (l:List Link) (h:l.length<=1000000) (ht: ∀x∈l,x.trip.length<=1000000):mF l l=some true:=by
 have key:aH (jU l l) FUEL 0=some (.brk ()):=by
  refine BL l (by omega) (fun t hlt=> ?_) ?_
  ·unfold jU;rw [ZJ (by omega),bu,bx,Hu _ (ht _ (at_mem hlt)),bt,aB ⟨by omega,by omega⟩,wr (by omega)];rfl
  ·unfold jU;rw [Wz (by omega)];rfl
 unfold mF;simp [key]
theorem Fs (l:List aF) (h:l.length<=1000000):mD l l=some true:=by
 have key:aH (jX l l) FUEL 0=some (.brk ()):=by
  refine BL l (by omega) (fun t ht=> ?_) ?_
  ·unfold jX;rw [ZJ (by omega),bu,aB ⟨by omega,by omega⟩,wr (by omega)];simp
  ·unfold jX;rw [Wz (by omega)];rfl
 unfold mD;simp [key]
theorem yc {p:ah} (h:RJ p):iN p p=some true:=by
 have h1:=h.src;have h2:=h.lnk;have h3:=h.rck;unfold iN;simp only [decide_true,bu];rw [show gB [(true,true)]=true from rfl,bu,Dr _ (by omega),bt,show gB [(true,true)]=true from rfl,bu,Gp _ (by omega) (fun x hx=>by have:=h.trp x hx;omega),bt];simp only [bu];rw [show gB [(true,true)]=true from rfl,bu,Fs _ (by omega)];rfl
def gu (w:List UInt8):Option Int:=numOf (sb w)
theorem mV {w:List UInt8} (h:w.length<=1000000):bg (sb w)=some (gu w):=by
 unfold bg;rw [aW,bz h];rfl
theorem UB (a b:List UInt8):bB (sb a) (sb b)=decide (a=b):=by
 unfold bB;rw [Bool.and_true,Bool.eq_iff_iff,de];refine⟨fun h=>zH (SH h),fun h=> ?_⟩;rw [h];show((sb b).data==(sb b).data)=true;exact beq_self_eq_true _
def pW (a b c:List UInt8) (w:List UInt8):Option Int:=if w=a then some 1 else if w=b then some 2 else if w=c then some 3 else none
def gN (w:List UInt8):Int:=if w=jg then 1 else if w=jC then 2 else if w=pV then 3 else if w=qb then 4 else 0
theorem VK {κ α:Type} (eq:κ->κ->Bool) (k k':κ) (v:α) (l:List (κ × α)):bn eq k ((k',v)::l)=bif eq k k' then some v else bn eq k l:=rfl
theorem abQ:lW=some [(sb rR,1),(sb BJ,2),(sb Bu,3)]:=by kernel_rfl
theorem abl:nL=some [(sb yQ,1),(sb yT,2),(sb yX,3)]:=by kernel_rfl
theorem abZ:sP=some [(sb jg,1),(sb jC,2),(sb pV,3),(sb qb,4)]:=by kernel_rfl
theorem WN (a b c w:List UInt8):bn bB (sb w) [(sb a,(1:Int)),(sb b,2),(sb c,3)]=pW a b c w:=by
 simp only [VK,UB,bn,pW];by_cases h1:w=a;·rw [bz h1,cj h1];rfl
 ·rw [b_ h1,ci h1,bv];by_cases h2:w=b
  ·rw [bz h2,cj h2];rfl
  ·rw [b_ h2,ci h2,bv];by_cases h3:w=c
   ·rw [bz h3,cj h3];rfl
   ·rw [b_ h3,ci h3];rfl
theorem WK (w:List UInt8):((bn bB (sb w) [(sb jg,(1:Int)),(sb jC,2),(sb pV,3),(sb qb,4)]).isSome= !decide (gN w=0))/\(bn bB (sb w) [(sb jg,(1:Int)),(sb jC,2),(sb pV,3),(sb qb,4)]).getD 0=gN w:=by
 simp only [bn,UB];by_cases h1:w=jg
 ·have e:gN w=1:=cj h1;rw [e,bz h1];exact⟨rfl,rfl⟩
 ·by_cases h2:w=jC
  ·have e:gN w=2:=by unfold gN;rw [ci h1,cj h2]
   rw [e,b_ h1,bz h2];exact⟨rfl,rfl⟩
  ·by_cases h3:w=pV
   ·have e:gN w=3:=by unfold gN;rw [ci h1,ci h2,cj h3]
    rw [e,b_ h1,b_ h2,bz h3];exact⟨rfl,rfl⟩
   ·by_cases h4:w=qb
    ·have e:gN w=4:=by unfold gN;rw [ci h1,ci h2,ci h3,cj h4]
     rw [e,b_ h1,b_ h2,b_ h3,bz h4];exact⟨rfl,rfl⟩
    ·have e:gN w=0:=by unfold gN;rw [ci h1,ci h2,ci h3,ci h4]
     rw [e,b_ h1,b_ h2,b_ h3,b_ h4];exact⟨rfl,rfl⟩
theorem XA (words:List (ByteArray × Int)) (w:ByteArray):kF words w=some (bn bB w words):=by
 unfold kF;cases bn bB w words<;>rfl
theorem XM (words:List (ByteArray × Int)) (w:ByteArray):ig words w=some (bn bB w words):=by
 unfold ig;cases bn bB w words<;>rfl
theorem yo {R:Type} (k:Unit->Option R) (p:Option R):fG (dZ true) k p=k ():=rfl
theorem jd {R:Type} (k:Unit->Option R) (p:Option R):fG (dZ false) k p=p:=rfl
def DZ (w:List UInt8):Option aQ:=bif (Lib.cut w [58]).2.2 then(match gu (Lib.cut w [58]).1,gu (Lib.cut w [58]).2.1 with|some a,some m=>some ⟨a,m⟩|_,_=>none)else none
def jV:List (List UInt8)->Option (List aQ)
 |[]=>some []
 |w::ws=>match DZ w,jV ws with|some t,some l=>some (t::l)|_,_=>none
def rX (R rank:Int) (ws:List (List UInt8)) (p:ah):Option (Int × ah):=
 if R≠0/\rank<=R/\(1<R↔0<rank)then
  if R=1 then(match ws with|[_,b]=>(gu b).map fun n=>(1,⟨n,p.aa,p.ac,p.am⟩)|_=>none)
  else if R=2 then(match ws with
   |[_,a,b,c,d,e]=>(match gu a,pW rR BJ Bu b,gu c,gu d,gu e with|some a,some b,some c,some d,some e=>some (2,⟨p.ae,p.aa++[⟨a,b,c,d,e⟩],p.ac,p.am⟩)|_,_,_,_,_=>none)
   |_=>none)
  else if R=3 then(match ws with
   |_::a::b::c::d::e::ts=>(match gu a,gu b,pW yQ yT yX c,gu d,gu e,jV ts with|some a,some b,some c,some d,some e,some l=>some (3,⟨p.ae,p.aa,p.ac++[⟨a,b,c,d,e,l⟩],p.am⟩)|_,_,_,_,_,_=>none)
   |_=>none)
  else(match ws with
   |[_,a,b,c,d]=>(match gu a,gu b,gu c,gu d with|some a,some b,some c,some d=>some (4,⟨p.ae,p.aa,p.ac,p.am++[⟨⟨a,b⟩,c,d⟩]⟩)|_,_,_,_=>none)
   |_=>none)
 else none
def zq (rank:Int) (ws:List (List UInt8)) (p:ah):Option (Int × ah):=rX (gN (ws.headD [])) rank ws p
theorem Lm (w:List UInt8) (c:UInt8):(Lib.cut w [c]).1.length<=w.length/\(Lib.cut w [c]).2.1.length<=w.length:=by
 by_cases h:c∈w
 ·obtain⟨a,r,rfl,ha⟩:=List.eq_append_cons_of_mem h;rw [vE ha];simp;omega
 ·rw [xX h];simp
theorem G5 {w:List UInt8} {c:UInt8} (h:w.length<4294967281):dA (sb w) ⟨#[c]⟩=some (sb (Lib.cut w [c]).1,sb (Lib.cut w [c]).2.1,(Lib.cut w [c]).2.2):=by
 unfold dA;rw [aW,bz h,oV];rfl
theorem II (r:List ByteArray) (hl:r.length<=1000000): ∀(rest:List (List UInt8)) (t n:Nat) (acc:List aQ),(∀w∈rest,w.length<=1000000)->(r.drop 6).drop t=rest.map sb->rest.length<n->acc.length+rest.length<=1000000->
  aH (fV r) n (acc,(t:Int))=some (match jV rest with|some l=> .brk (acc++l)|none=> .ret none)
 |[],t,n,acc,_,hd,hn,_=>by
  match n,hn with
  |n+1,_=>
   have hle:r.length - 6<=t:=by
    have:=congrArg List.length hd;simp only [ea,List.map_nil,List.length_nil]at this;omega
   have hb:fV r (acc,(t:Int))=some (.done (.brk acc)):=by
    unfold fV;dsimp only;rw [b_ (by omega)];rfl
   rw [aH,hb];show some _=some (Ex.brk (acc++[]));rw [cW]
 |w::rest,t,n,acc,hw,hd,hn,ha=>by
  match n,hn with
  |n+1,hn=>
   have hlt:t<(r.drop 6).length:=by
    rcases Nat.lt_or_ge t (r.drop 6).length with h|h;·exact h
    ·rw [List.drop_eq_nil_of_le h]at hd;cases hd
   have hlt':t<r.length - 6:=by simpa using hlt
   have hat:at' (r.drop 6) t=sb w:=by
    rw [eQ hlt,cM]at hd;rw [fM hlt];exact(List.cons.inj hd).1
   have hd':(r.drop 6).drop (t+1)=rest.map sb:=by
    rw [eQ hlt,cM]at hd;exact(List.cons.inj hd).2
   have hwl:=hw w cw;have hcl:=Lm w 58;have hal:acc.length+1+rest.length<=1000000:=by simp only [cY]at ha;omega
   have hb:fV r (acc,(t:Int))=some (match DZ w with|some x=> .next (acc++[x],((t+1:Nat):Int))|none=> .done (.ret none)):=by
    unfold fV;dsimp only;rw [bz (by omega),bu,aB ⟨by omega,by omega⟩,bx,hat,G5 (by omega),bt];dsimp only;unfold DZ;cases hc:(Lib.cut w [58]).2.2 with
    |false=>rw [jd];rfl
    |true=>
     rw [yo,mV (by omega),mV (by omega),bu];cases gu (Lib.cut w [58]).1 with
     |none=>rfl
     |some a=>
      cases gu (Lib.cut w [58]).2.1 with
      |none=>rfl
      |some m=>
       show bA _ _=_;rw [aB (by simp only [cx];omega),wr (by omega)];rfl
   rw [aH,hb];unfold jV;cases DZ w with
   |none=>rfl
   |some x=>
    show aH _ n (acc++[x],((t+1:Nat):Int))=_;rw [II r hl rest (t+1) n (acc++[x]) (fun v hv=>hw v (ct _ hv)) hd' (by simp at hn;omega) (by simp;omega)];cases jV rest with
    |none=>rfl
    |some l=>simp
theorem oL (c:UInt8) (s:List UInt8):(∀w,w∈aM c s->w.length<=s.length)/\(aM c s).length<=s.length+1:=by
 refine yO c (P:=fun s=>(∀w,w∈aM c s->w.length<=s.length)/\(aM c s).length<=s.length+1) (fun s h=> ?_) (fun a r ha ih=> ?_) s.length s (cz _);·rw [oM h];simp
 ·rw [lK ha];refine⟨fun w hw=> ?_, ?_⟩
  ·rcases ej.1 hw with rfl|hw
   ·simp
   ·have:=ih.1 w hw;simp;omega
  ·have:=ih.2;simp;omega
theorem yB (w:List UInt8):0<=gN w/\gN w<=4:=by
 unfold gN;split;·omega
 ·split
  ·omega
  ·split
   ·omega
   ·split<;>omega
theorem RD (R rank:Int):(bif (bif (!decide (R=0))then(decide (rank<=R))else false)then((decide (1<R))==(decide (0<rank)))else false)=decide (R≠0/\rank<=R/\(1<R↔0<rank)):=by
 rw [Bool.eq_iff_iff,de];by_cases h0:R=0;·simp [h0]
 ·by_cases h1:rank<=R
  ·simp [h0,h1]
  ·simp [h0,h1]
theorem eF {T R:Type} (y:T) (k:T->Option R) (p:Option R):fG (some (some y)) k p=k y:=rfl
theorem eU {T R:Type} (k:T->Option R) (p:Option R):fG (some none) k p=p:=rfl
structure Rm (p:ah):Prop where
 s:p.aa.length<=500000
 l:p.ac.length<=500000
 r:p.am.length<=500000
set_option maxHeartbeats 1000000 in
theorem Pe (rank:Int) {s:List UInt8} (hs:s.length<=200000) {p:ah} (hp:Rm p):qj rank (sb s) p=some (zq rank (aM 32 s) p):=by
 have h1:=oL 32 s;have hne:=Cu 32 s;unfold qj;rw [ML (by rw [aW];omega),bt,abZ,bt,oV];obtain⟨hp1,hp2,hp3⟩:=hp;generalize aM 32 s=ws at h1 hne;obtain⟨hw,hl⟩:=h1;cases ws with
 |nil=>exact absurd rfl hne
 |cons w0 ws=>
  rw [show at' ((w0::ws).map sb) 0=sb w0 from rfl,(WK w0).1,(WK w0).2,aB (by simp),RD];have hR:=yB w0;have n: ∀w,w∈ws->w.length<=1000000:=fun w h=>d7 (hw w (ct _ h)) (by omega);show _=some (rX (gN w0) rank (w0::ws) p);unfold rX;by_cases hc:gN w0≠0/\rank<=gN w0/\(1<gN w0↔0<rank)
  ·rw [bz hc,yo,cj hc];by_cases r1:gN w0=1
   ·rw [bz r1,bu,cj r1]
    match ws,n with
    |[],_=>rw [b_ (by simp),jd]
    |[b],n=>
     rw [bz (by simp),yo,show at' ([w0,b].map sb) 1=sb b from rfl,mV (n b (by simp))];dsimp only;cases gu b with
     |none=>
      simp only [eF,eU];show bA _ _=_;exact(aB (by simp) _).trans rfl
     |some v=>
      rw [r1];simp only [eF,eU];show bA _ _=_;exact(aB (by simp) _).trans rfl
    |b::c::ws,_=>rw [b_ (by simp;omega),jd]
   ·rw [b_ r1,bv,ci r1];by_cases r2:gN w0=2
    ·rw [bz r2,bu,cj r2]
     match ws,n with
     |[],_=>rw [b_ (by simp),jd]
     |[_],_=>rw [b_ (by simp),jd]
     |[_,_],_=>rw [b_ (by simp),jd]
     |[_,_,_],_=>rw [b_ (by simp),jd]
     |[_,_,_,_],_=>rw [b_ (by simp),jd]
     |[a,b,c,d,e],n=>
      rw [bz (by simp),yo,show at' ([w0,a,b,c,d,e].map sb) 1=sb a from rfl,show at' ([w0,a,b,c,d,e].map sb) 2=sb b from rfl,show at' ([w0,a,b,c,d,e].map sb) 3=sb c from rfl,show at' ([w0,a,b,c,d,e].map sb) 4=sb d from rfl,show at' ([w0,a,b,c,d,e].map sb) 5=sb e from rfl,
       mV (n a (by simp)),mV (n c (by simp)),mV (n d (by simp)),mV (n e (by simp)),abQ]
      dsimp only;cases gu a with
      |none=>
       simp only [eF,eU];show bA _ _=_;exact(aB (by simp) _).trans rfl
      |some a=>
       show fG (kF _ (sb b)) _ _=_;rw [XA,WN];cases pW rR BJ Bu b with
       |none=>
        simp only [eF,eU];show bA _ _=_;exact(aB (by simp) _).trans rfl
       |some b=>
        cases gu c with
        |none=>
         simp only [eF,eU];show bA _ _=_;exact(aB (by simp) _).trans rfl
        |some c=>
         cases gu d with
         |none=>
          simp only [eF,eU];show bA _ _=_;exact(aB (by simp) _).trans rfl
         |some d=>
          cases gu e with
          |none=>
           simp only [eF,eU];show bA _ _=_;exact(aB (by simp) _).trans rfl
          |some e=>
           rw [r2];simp only [eF,eU];show bA _ _=_;exact(aB (by simp;omega) _).trans rfl
     |_::_::_::_::_::_::ws,_=>rw [b_ (by simp;omega),jd]
    ·rw [b_ r2,bv,ci r2];by_cases r3:gN w0=3
     ·rw [bz r3,bu,cj r3]
      match ws,n with
      |[],_=>rw [b_ (by simp),jd]
      |[_],_=>rw [b_ (by simp),jd]
      |[_,_],_=>rw [b_ (by simp),jd]
      |[_,_,_],_=>rw [b_ (by simp),jd]
      |[_,_,_,_],_=>rw [b_ (by simp),jd]
      |a::b::c::d::e::ts,n=>
       rw [bz (by simp;omega),yo,show at' ((w0::a::b::c::d::e::ts).map sb) 1=sb a from rfl,show at' ((w0::a::b::c::d::e::ts).map sb) 2=sb b from rfl,show at' ((w0::a::b::c::d::e::ts).map sb) 3=sb c from rfl,show at' ((w0::a::b::c::d::e::ts).map sb) 4=sb d from rfl,show at' ((w0::a::b::c::d::e::ts).map sb) 5=sb e from rfl,
        mV (n a (by simp)),mV (n b (by simp)),mV (n d (by simp)),mV (n e (by simp)),abl]
       dsimp only;have hlt:ts.length<=300000:=by simp at hl;omega
       have ht:=II ((w0::a::b::c::d::e::ts).map sb) (by simp;omega) ts 0 FUEL [] (fun w h=>n w (by simp [h])) rfl (by unfold FUEL;omega) (by simp;omega);cases gu a with
       |none=>
        simp only [eF,eU];show bA _ _=_;exact(aB (by simp;omega) _).trans rfl
       |some a=>
        cases gu b with
        |none=>
         simp only [eF,eU];show bA _ _=_;exact(aB (by simp;omega) _).trans rfl
        |some b=>
         show fG (ig _ (sb c)) _ _=_;rw [XM,WN];cases pW yQ yT yX c with
         |none=>
          simp only [eF,eU];show bA _ _=_;exact(aB (by simp;omega) _).trans rfl
         |some c=>
          cases gu d with
          |none=>
           simp only [eF,eU];show bA _ _=_;exact(aB (by simp;omega) _).trans rfl
          |some d=>
           cases gu e with
           |none=>
            simp only [eF,eU];show bA _ _=_;exact(aB (by simp;omega) _).trans rfl
           |some e=>
            simp only [eF];show bA _ (bA _ (Option.bind (aH (fV _) FUEL ([],((0:Nat):Int))) _))=_;rw [aB (by simp;omega),aB (by simp;omega),ht];cases jV ts with
            |none=>rfl
            |some l=>
             rw [r3];simp only [eF,eU];show bA _ _=_;exact(aB (by simp;omega) _).trans rfl
     ·have r4:gN w0=4:=by omega
      rw [b_ r3,bv,ci r3,bz r4,bu]
      match ws,n with
      |[],_=>rw [b_ (by simp),jd]
      |[_],_=>rw [b_ (by simp),jd]
      |[_,_],_=>rw [b_ (by simp),jd]
      |[_,_,_],_=>rw [b_ (by simp),jd]
      |[a,b,c,d],n=>
       rw [bz (by simp),yo,show at' ([w0,a,b,c,d].map sb) 1=sb a from rfl,show at' ([w0,a,b,c,d].map sb) 2=sb b from rfl,show at' ([w0,a,b,c,d].map sb) 3=sb c from rfl,show at' ([w0,a,b,c,d].map sb) 4=sb d from rfl,
        mV (n a (by simp)),mV (n b (by simp)),mV (n c (by simp)),mV (n d (by simp))]
       dsimp only;cases gu a with
       |none=>
        simp only [eF,eU];show bA _ _=_;exact(aB (by simp) _).trans rfl
       |some a=>
        cases gu b with
        |none=>
         simp only [eF,eU];show bA _ _=_;exact(aB (by simp) _).trans rfl
        |some b=>
         cases gu c with
         |none=>
          simp only [eF,eU];show bA _ _=_;exact(aB (by simp) _).trans rfl
         |some c=>
          cases gu d with
          |none=>
           simp only [eF,eU];show bA _ _=_;exact(aB (by simp) _).trans rfl
          |some d=>
           rw [r4];simp only [eF,eU];show bA _ _=_;exact(aB (by simp;omega) _).trans rfl
      |_::_::_::_::_::ws,_=>rw [b_ (by simp;omega),jd]
  ·rw [b_ hc,jd,ci hc]
inductive Lines:List UInt8->ah->Int->Int->Bool->ah->Int->Prop
 |nil (p:ah) (n r:Int):Lines [] p n r true p n
 |bad {t:List UInt8} (h0:t≠[]) (h:10 ∉ t) (p:ah) (n r:Int):Lines t p n r false p n
 |stop {s t:List UInt8} {p:ah} {n r:Int} (h:10 ∉ s) (hl:zq r (aM 32 s) p=none):Lines (s++10::t) p n r false p n
 |step {s t:List UInt8} {p q e:ah} {n m r r':Int} {ok:Bool} (h:10 ∉ s) (hl:zq r (aM 32 s) p=some (r',q)) (ht:Lines t q (n+1) r' ok e m):Lines (s++10::t) p n r ok e m
theorem Jr: ∀(k:Nat) (t:List UInt8) (p:ah) (n r:Int),t.length<=k-> ∃ok e m,Lines t p n r ok e m
 |k,t,p,n,r,hk=>by
  by_cases h0:t=[];·subst h0;exact⟨_,_,_, .nil p n r⟩
  ·by_cases h:10∈t
   ·obtain⟨s,u,rfl,hs⟩:=List.eq_append_cons_of_mem h;cases hl:zq r (aM 32 s) p with
    |none=>exact⟨_,_,_, .stop hs hl⟩
    |some x=>
     obtain⟨r',q⟩:=x
     match k,hk with
     |0,hk=>simp at hk
     |k+1,hk=>
      obtain⟨ok,e,m,hh⟩:=Jr k u q (n+1) r' (by simp at hk;omega);exact⟨ok,e,m, .step hs hl hh⟩
   ·exact⟨_,_,_, .bad h0 h p n r⟩
theorem FK: ∀{ts:List (List UInt8)} {l:List aQ},jV ts=some l->l.length=ts.length
 |[],l,h=>by cases h;rfl
 |w::ws,l,h=>by
  unfold jV at h;cases h1:DZ w with
  |none=>rw [h1]at h;cases h
  |some t=>
   cases h2:jV ws with
   |none=>rw [h1,h2]at h;cases h
   |some l'=>rw [h1,h2]at h;cases h;simp [FK h2]
theorem IA {r r':Int} {ws:List (List UInt8)} {p q:ah} (h:zq r ws p=some (r',q)):
  (r'=1/\ ¬ 0<r/\ ∃w b,ws=[w,b]/\w=jg/\ ∃n,gu b=some n/\q=⟨n,p.aa,p.ac,p.am⟩)\/
  (r'=2/\0<r/\r<=2/\ ∃w a b c d e,ws=[w,a,b,c,d,e]/\w=jC/\ ∃a' b' c' d' e',gu a=some a'/\pW rR BJ Bu b=some b'/\gu c=some c'/\gu d=some d'/\gu e=some e'/\q=⟨p.ae,p.aa++[⟨a',b',c',d',e'⟩],p.ac,p.am⟩)\/
  (r'=3/\0<r/\r<=3/\ ∃w a b c d e ts,ws=w::a::b::c::d::e::ts/\w=pV/\ ∃a' b' c' d' e' l,gu a=some a'/\gu b=some b'/\pW yQ yT yX c=some c'/\gu d=some d'/\gu e=some e'/\jV ts=some l/\q=⟨p.ae,p.aa,p.ac++[⟨a',b',c',d',e',l⟩],p.am⟩)\/
  (r'=4/\0<r/\r<=4/\ ∃w a b c d,ws=[w,a,b,c,d]/\w=qb/\ ∃a' b' c' d',gu a=some a'/\gu b=some b'/\gu c=some c'/\gu d=some d'/\q=⟨p.ae,p.aa,p.ac,p.am++[⟨⟨a',b'⟩,c',d'⟩]⟩):=by
 unfold zq at h;have hw: ∀w,(gN w=1->w=jg)/\(gN w=2->w=jC)/\(gN w=3->w=pV)/\(gN w=4->w=qb):=fun w=>by
  unfold gN;by_cases h1:w=jg;·rw [cj h1];exact⟨fun _=>h1,fun e=>by omega,fun e=>by omega,fun e=>by omega⟩
  ·rw [ci h1];by_cases h2:w=jC
   ·rw [cj h2];exact⟨fun e=>by omega,fun _=>h2,fun e=>by omega,fun e=>by omega⟩
   ·rw [ci h2];by_cases h3:w=pV
    ·rw [cj h3];exact⟨fun e=>by omega,fun e=>by omega,fun _=>h3,fun e=>by omega⟩
    ·rw [ci h3];by_cases h4:w=qb
     ·rw [cj h4];exact⟨fun e=>by omega,fun e=>by omega,fun e=>by omega,fun _=>h4⟩
     ·rw [ci h4];exact⟨fun e=>by omega,fun e=>by omega,fun e=>by omega,fun e=>by omega⟩
 have hR:=yB (ws.headD []);have hv:=hw (ws.headD []);generalize hRe:gN (ws.headD [])=R at h hR hv;unfold rX at h;by_cases hc:R≠0/\r<=R/\(1<R↔0<r)
 ·rw [cj hc]at h;by_cases r1:R=1
  ·left;rw [cj r1]at h;split at h
   ·rename_i w b;cases hb:gu b with
    |none=>rw [hb]at h;cases h
    |some n=>rw [hb]at h;cases h;exact⟨rfl,by omega,w,b,rfl,hv.1 r1,n,hb,rfl⟩
   ·cases h
  ·right;rw [ci r1]at h;by_cases r2:R=2
   ·left;rw [cj r2]at h;split at h
    ·rename_i w a b c d e;split at h
     ·rename_i a' b' c' d' e' ha hb hc' hd he;cases h;exact⟨rfl,by omega,by omega,w,a,b,c,d,e,rfl,hv.2.1 r2,a',b',c',d',e',ha,hb,hc',hd,he,rfl⟩
     ·cases h
    ·cases h
   ·right;rw [ci r2]at h;by_cases r3:R=3
    ·left;rw [cj r3]at h;split at h
     ·rename_i w a b c d e ts;split at h
      ·rename_i a' b' c' d' e' l ha hb hc' hd he hl;cases h;exact⟨rfl,by omega,by omega,w,a,b,c,d,e,ts,rfl,hv.2.2.1 r3,a',b',c',d',e',l,ha,hb,hc',hd,he,hl,rfl⟩
      ·cases h
     ·cases h
    ·right;rw [ci r3]at h;split at h
     ·rename_i w a b c d;split at h
      ·rename_i a' b' c' d' ha hb hc' hd;cases h;exact⟨rfl,by omega,by omega,w,a,b,c,d,rfl,hv.2.2.2 (by omega),a',b',c',d',ha,hb,hc',hd,rfl⟩
      ·cases h
     ·cases h
 ·rw [ci hc]at h;cases h
structure QU (p:ah) (t:List UInt8):Prop where
 s:p.aa.length+t.length<=200000
 l:p.ac.length+t.length<=200000
 r:p.am.length+t.length<=200000
 x: ∀x∈p.ac,x.trip.length<=200000
theorem QU.rm {p:ah} {t:List UInt8} (h:QU p t):Rm p:=⟨by have:=h.s;omega,by have:=h.l;omega,by have:=h.r;omega⟩
theorem QU.step {p q:ah} {s t:List UInt8} {r r':Int} (h:QU p (s++10::t)) (hl:zq r (aM 32 s) p=some (r',q)):QU q t:=by
 have h1:=h.s;have h2:=h.l;have h3:=h.r;have h4:=h.x;simp only [cd,cY]at h1 h2 h3;have hw:=(oL 32 s).2;rcases IA hl with⟨_,_,w,b,_,_,n,_,rfl⟩|⟨_,_,_,w,a,b,c,d,e,_,_,a',b',c',d',e',_,_,_,_,_,rfl⟩|⟨_,_,_,w,a,b,c,d,e,ts,hws,_,a',b',c',d',e',l,_,_,_,_,_,hts,rfl⟩|⟨_,_,_,w,a,b,c,d,_,_,a',b',c',d',_,_,_,_,rfl⟩;·exact⟨by simp only;omega,by simp only;omega,by simp only;omega,h4⟩
 ·exact⟨by simp only [cd,cx];omega,by simp only;omega,by simp only;omega,h4⟩
 ·refine⟨by simp only;omega,by simp only [cd,cx];omega,by simp only;omega,fun x hx=> ?_⟩;rcases cA.1 hx with hx|hx
  ·exact h4 x hx
  ·rw [cG]at hx;subst hx;have:=FK hts;rw [hws]at hw;simp only [cY]at hw;simp only;omega
 ·exact⟨by simp only;omega,by simp only;omega,by simp only [cd,cx];omega,h4⟩
theorem Lines.run {t:List UInt8} {p e:ah} {n m r:Int} {ok:Bool} (h:Lines t p n r ok e m): ∀(k:Nat),t.length<k->QU p t->0<=n->n+t.length<=1000000->
  aH dm k (p.ae,p.aa,p.ac,p.am,sb t,n,r)=some (bif ok then .brk (e.ae,e.aa,e.ac,e.am,m)else .ret (.inr (e.ae,e.aa,e.ac,e.am,m))):=by
 induction h with
 |nil p n r=>
  intro k hk _ _ _
  match k,hk with
  |k+1,_=>
   have hb:dm (p.ae,p.aa,p.ac,p.am,sb [],n,r)=some (.done (.brk (p.ae,p.aa,p.ac,p.am,n))):=by
    unfold dm;dsimp only;rw [show((⟨#[]⟩:ByteArray))=sb []from rfl,rz,bz rfl];rfl
   rw [aH,hb];rfl
 |bad h0 h p n r=>
  rename_i t;intro k hk hr _ _
  match k,hk with
  |k+1,_=>
   have hr1:=hr.s;have hb:dm (p.ae,p.aa,p.ac,p.am,sb t,n,r)=some (.done (.ret (.inr (p.ae,p.aa,p.ac,p.am,n)))):=by
    unfold dm;dsimp only;rw [show((⟨#[]⟩:ByteArray))=sb []from rfl,rz,b_ (fun e=>h0 (zH e)),cF,bu,G5 (by omega),bt];dsimp only;rw [xX h,jd]
   rw [aH,hb];rfl
 |stop h hl=>
  rename_i s t p n r;intro k hk hr _ _
  match k,hk with
  |k+1,_=>
   have hr1:=hr.s;have hsl:s.length<=200000:=by simp at hr1;omega
   have hb:dm (p.ae,p.aa,p.ac,p.am,sb (s++10::t),n,r)=some (.done (.ret (.inr (p.ae,p.aa,p.ac,p.am,n)))):=by
    unfold dm;dsimp only;rw [show((⟨#[]⟩:ByteArray))=sb []from rfl,rz,b_ (fun e=>by have:=zH e;simp at this),cF,bu,G5 (by omega),bt];dsimp only;rw [vE h,yo,Pe r hsl hr.rm,hl];rfl
   rw [aH,hb];rfl
 |step h hl ht ih=>
  rename_i s t p q e n m r r' ok;intro k hk hr hn hm
  match k,hk with
  |k+1,hk=>
   have hr1:=hr.s;have hsl:s.length<=200000:=by simp at hr1;omega
   have hb:dm (p.ae,p.aa,p.ac,p.am,sb (s++10::t),n,r)=some (.next (q.ae,q.aa,q.ac,q.am,sb t,n+1,r')):=by
    unfold dm;dsimp only;rw [show((⟨#[]⟩:ByteArray))=sb []from rfl,rz,b_ (fun e=>by have:=zH e;simp at this),cF,bu,G5 (by omega),bt];dsimp only;rw [vE h,yo,Pe r hsl hr.rm,hl,wr (by omega)];rfl
   rw [aH,hb];simp only [cd,cY]at hk hm;exact ih k (by omega) (hr.step hl) (by omega) (by omega)
def E1:ah:=⟨0,[],[],[]⟩
def wY (ok:Bool) (e:ah) (n:Int):ah × Int × Int:=
 if ok=true/\0<n then(if fZ e=0 then(e,0,0)else(E1,n,fZ e))else(E1,n,3)
theorem Lines.rn {t:List UInt8} {p e:ah} {n m r:Int} {ok:Bool} (h:Lines t p n r ok e m):QU p t->QU e []:=by
 have key: ∀{p:ah} {t:List UInt8},QU p t->QU p []:=fun{p t} h=> ⟨by have:=h.s;simp;omega,by have:=h.l;simp;omega,by have:=h.r;simp;omega,h.x⟩;induction h with
 |nil p n r=>exact key
 |bad h0 h p n r=>exact key
 |stop h hl=>exact key
 |step h hl ht ih=>exact fun hr=>ih (hr.step hl)
theorem Uh {t:List UInt8} (ht:t.length<=131072) {ok:Bool} {e:ah} {n:Int} (h:Lines t E1 0 0 ok e n):lZ (sb t)=some (wY ok e n):=by
 have hr:QU E1 t:=⟨by show 0+_<=_;omega,by show 0+_<=_;omega,by show 0+_<=_;omega,fun x hx=>by cases hx⟩;have hrun:=h.run FUEL (by unfold FUEL;omega) hr (by omega) (by omega);have he:=h.rn hr;unfold lZ;rw [aW,b_ (by omega),bv];have hlines:oU (sb t)=some (e,n,ok && decide (0<n)):=by
  unfold oU;show Option.bind (Option.bind (aH dm FUEL (E1.ae,E1.aa,E1.ac,E1.am,sb t,0,0)) _) _=_;rw [hrun];cases ok<;>rfl
 rw [hlines,bt];unfold wY;dsimp only;cases ok with
 |false=>rfl
 |true=>
  rw [cQ];by_cases hn:0<n
  ·rw [bz hn,cE,bv,cj ⟨rfl,hn⟩];have hs:Small e:=⟨by have:=he.s;omega,by have:=he.l;omega,by have:=he.r;omega,fun x hx=>by have:=he.x x hx;omega⟩;rw [xM e hs,bt];by_cases hc:fZ e=0
   ·rw [bz hc,cE,bv,cj hc]
   ·rw [b_ hc,cF,bu,ci hc];rfl
  ·rw [b_ hn,cF,bu,ci (fun h=>hn h.2)];rfl
def pR (ws:List (List UInt8)):List UInt8:=joinL 32 ws++[10]
def vS (x:Source):List (List UInt8):=[jC,Lib.itoa x.bus,p8 rR BJ Bu x.kind,Lib.itoa x.power,Lib.itoa x.br,Lib.itoa x.ohm]
def Ma (t:aQ):List UInt8:=Lib.itoa t.bp++58::Lib.itoa t.bi
def rT (x:Link):List (List UInt8):=pV::Lib.itoa x.a::Lib.itoa x.b::p8 yQ yT yX x.kind::Lib.itoa x.most::Lib.itoa x.ohm::x.trip.map Ma
def wh (x:aF):List (List UInt8):=[qb,Lib.itoa x.bh.e0,Lib.itoa x.bh.e1,Lib.itoa x.power,Lib.itoa x.bk]
def jZ {α:Type} (f:α->List (List UInt8)):List α->List UInt8
 |[]=>[]
 |x::l=>pR (f x)++jZ f l
theorem uw {α:Type} (f:α->List (List UInt8)): ∀(a b:List α),jZ f (a++b)=jZ f a++jZ f b
 |[],b=>rfl
 |x::a,b=>by rw [d8,jZ,jZ,uw f a b,cR]
def vN (p:ah):List UInt8:=pR [jg,Lib.itoa p.ae]++(jZ vS p.aa++(jZ rT p.ac++jZ wh p.am))
theorem Jz (c:UInt8) (w:List UInt8): ∀{ws:List (List UInt8)},ws≠[]->joinL c (ws++[w])=joinL c ws++c::w
 |[],h=>absurd rfl h
 |[v],_=>rfl
 |v::u::ws,_=>by
  rw [d8,join_cons c v (by simp),join_cons c v (by simp),Jz c w (by simp),cR];rfl
theorem I8 (l:List Wd): ∀i,i<=l.length->rO l i=joinL 32 ((l.take i).map VA)
 |0,_=>rfl
 |i+1,h=>by
  have hi:i<l.length:=by omega
  rw [rO,I8 l i (by omega),List.take_succ_eq_append_getElem hi,List.map_append,List.map_singleton];have e:l.getD i default=l[i]:=by simp [hi]
  rw [e];rcases Nat.eq_zero_or_pos i with h0|h0;·subst h0;rfl
  ·rw [cj h0,Jz 32 _ (by intro e;have:=congrArg List.length e;simp only [dt,d_,List.length_nil]at this;omega)];rfl
theorem Cr (l:List Wd):qc l=pR (l.map VA):=by
 unfold qc pR;rw [I8 l l.length (cz _),ec]
theorem Qa (l:List Source) (f:Nat->Nat->Int) (hf: ∀i j,f i j=VG (Source.cell (at' l i) j)): ∀i,i<=l.length->jo f i=jZ vS (l.take i)
 |0,_=>rfl
 |i+1,h=>by
  have hi:i<l.length:=by omega
  rw [jo,Qa l f hf i (by omega),d9 hi,uw,Cr];congr 1;rw [jZ,jZ,cW];simp only [O0,hf];rfl
theorem Pm (l:List aF) (f:Nat->Nat->Int) (hf: ∀i j,f i j=VG (aF.cell (at' l i) j)): ∀i,i<=l.length->p9 f i=jZ wh (l.take i)
 |0,_=>rfl
 |i+1,h=>by
  have hi:i<l.length:=by omega
  rw [p9,Pm l f hf i (by omega),d9 hi,uw,Cr];congr 1;rw [jZ,jZ,cW];simp only [Ny,hf];rfl
theorem Pd (l:List aQ) (f:Nat->Nat->Int) (hf: ∀i j,f i j=VG (aQ.cell (at' l i) j)): ∀i,i<=l.length->(Dj f i).map VA=(l.take i).map Ma
 |0,_=>rfl
 |i+1,h=>by
  have hi:i<l.length:=by omega
  rw [Dj,List.map_append,Pd l f hf i (by omega),d9 hi,List.map_append];simp only [hf];rfl
theorem P7 (l:List Link) (f:Nat->Nat->Int) (tn:Nat->Nat) (tf:Nat->Nat->Nat->Int) (hf: ∀i j,j<5->f i j=VG (Link.cell (at' l i) j)) (hn: ∀i,tn i=(at' l i).trip.length) (ht: ∀i g j,tf i g j=VG (aQ.cell (at' (at' l i).trip g) j)): ∀i,i<=l.length->kY f tn tf i=jZ rT (l.take i)
 |0,_=>rfl
 |i+1,h=>by
  have hi:i<l.length:=by omega
  rw [kY,P7 l f tn tf hf hn ht i (by omega),d9 hi,uw,Cr];congr 1;rw [jZ,jZ,cW];have e:=Pd (at' l i).trip (tf i) (ht i) (tn i) (by rw [hn];exact cz _);rw [hn i,ec]at e;rw [hn i];unfold Dh rT;rw [List.map_append,e];simp only [zG,hf i 0 (by omega),hf i 1 (by omega),hf i 2 (by omega),hf i 3 (by omega),hf i 4 (by omega)];rfl
theorem MU (p:ah):Ui p=vN p:=by
 unfold Ui NH vN kD;rw [Cr,Qa p.aa (fmtS p) (fun _ _=>rfl) _ (cz _),ec,P7 p.ac (OQ p) (LB p) (OI p) (fun _ _ _=>rfl) (fun _=>rfl) (fun _ _ _=>rfl) _ (cz _),ec,
  Pm p.am (OL p) (fun _ _=>rfl) _ (cz _),ec]
 rfl
theorem Am {l:List aQ} {i:Nat} (hi:i<l.length) (h:jA l i=false):(1<=(at' l i).bp/\(at' l i).bp<=1000000)/\0<=(at' l i).bi/\(at' l i).bi<=1000000:=by
 unfold jA at h;simp only [eo,Bool.not_eq_false',Ao]at h;omega
theorem Mr (c:UInt8) {k:Nat}: ∀{ws:List (List UInt8)},(∀w∈ws,w.length<=k)->(joinL c ws).length<=(k+1)*ws.length
 |[],_=>by simp [joinL]
 |[w],h=>by have:=h w cw;simp [joinL];omega
 |w::v::ws,h=>by
  have h1:=h w cw;have ih:=Mr c (k:=k) (ws:=v::ws) fun x hx=>h x (ct _ hx);rw [join_cons c w (by simp),cd,cY,cY (a:=w),Nat.mul_succ];omega
theorem Cy {ws:List (List UInt8)} {q:Nat} (h: ∀w∈ws,w.length<=30) (hq:ws.length<=q):(pR ws).length<=31*q+1:=by
 have:=Mr 32 h;rw [pR,cd];have:31*ws.length<=31*q:=Nat.mul_le_mul_left _ hq;simp only [cx];omega
theorem BR {α:Type} {f:α->List (List UInt8)} {k:Nat}: ∀{l:List α},(∀x∈l,(pR (f x)).length<=k)->(jZ f l).length<=k*l.length
 |[],_=>by simp [jZ]
 |x::l,h=>by
  have h1:=h x cw;have h2:=BR (k:=k) fun y hy=>h y (ct _ hy);rw [jZ,cd,cY,Nat.mul_succ];omega
theorem Cc {a b c:List UInt8} (ha:a.length<=30) (hb:b.length<=30) (hc:c.length<=30) (k:Int):(p8 a b c k).length<=30:=by
 unfold p8;split;·exact ha
 ·split
  ·exact hb
  ·split
   ·exact hc
   ·simp
theorem fC {v:Int} (h: -999999999<=v/\v<=999999999):(Lib.itoa v).length<=10:=(Mi h).1
theorem V9 {b:Int} {x:Source} (hb:1<=b/\b<=24) (h:Ya b x):(pR (vS x)).length<=400:=by
 obtain⟨h1,h2,h3,h4,h5⟩:=h;refine d7 (Cy (q:=6) (fun w hw=> ?_) (by simp [vS])) (by omega);simp only [vS,ej,List.not_mem_nil,or_false]at hw;rcases hw with rfl|rfl|rfl|rfl|rfl|rfl;·decide
 ·exact d7 (fC (by omega)) (by omega)
 ·exact Cc (by decide) (by decide) (by decide) _
 all_goals exact d7 (fC (by omega)) (by omega)
theorem VI {b:Int} {x:Link} (hb:1<=b/\b<=24) (h:VL b x):(pR (rT x)).length<=400:=by
 obtain⟨h1,h2,_,h3,h4,h5,h6,h7,_⟩:=h;refine d7 (Cy (q:=12) (fun w hw=> ?_) (by simp [rT];omega)) (by omega);simp only [rT,ej,List.mem_map]at hw;rcases hw with rfl|rfl|rfl|rfl|rfl|rfl|⟨t,ht,rfl⟩;·decide
 ·exact d7 (fC (by omega)) (by omega)
 ·exact d7 (fC (by omega)) (by omega)
 ·exact Cc (by decide) (by decide) (by decide) _
 ·exact d7 (fC (by omega)) (by omega)
 ·exact d7 (fC (by omega)) (by omega)
 ·obtain⟨i,hi,rfl⟩:=jG ht;have hb:=Am hi (h7 i hi);have e1:=fC (v:=(at' x.trip i).bp) (by omega);have e2:=fC (v:=(at' x.trip i).bi) (by omega);rw [Ma,cd,cY];omega
theorem U3 {b:Int} {x:aF} (hb:1<=b/\b<=24) (h:VR b x):(pR (wh x)).length<=400:=by
 obtain⟨h1,h2,_,h3,h4⟩:=h;have h5:jF x<=2:=by unfold jF;split<;>omega
 refine d7 (Cy (q:=5) (fun w hw=> ?_) (by simp [wh])) (by omega);simp only [wh,ej,List.not_mem_nil,or_false]at hw;rcases hw with rfl|rfl|rfl|rfl|rfl;·decide
 all_goals exact d7 (fC (by omega)) (by omega)
theorem tY {p:ah} (h:VP p):(vN p).length<=40000:=by
 have hb:=h.b;have h1:=h.sl;have h2:=h.ll;have h3:=h.rl;have l0:(pR [jg,Lib.itoa p.ae]).length<=31*2+1:=Cy (q:=2) (fun w hw=>by
  simp only [ej,List.not_mem_nil,or_false]at hw;rcases hw with rfl|rfl;·decide
  ·exact d7 (fC (by omega)) (by omega)) (by simp)
 have l1:=BR (f:=vS) (k:=400) (l:=p.aa) fun x hx=>by obtain⟨i,hi,rfl⟩:=jG hx;exact V9 hb (h.src i hi)
 have l2:=BR (f:=rT) (k:=400) (l:=p.ac) fun x hx=>by obtain⟨i,hi,rfl⟩:=jG hx;exact VI hb (h.lnk i hi)
 have l3:=BR (f:=wh) (k:=400) (l:=p.am) fun x hx=>by obtain⟨i,hi,rfl⟩:=jG hx;exact U3 hb (h.rck i hi)
 unfold vN;simp only [cd];omega
theorem iY {z:Int} (h: -999999999<=z/\z<=999999999):BZ z=true:=by
 unfold BZ;rw [bz (by omega),bz (by omega)];rfl
theorem qo {n:Nat} {f:Nat->Bool} (h: ∀i,i<n->f i=true):sU n f=true:=by
 unfold sU;rw [List.all_eq_true];exact fun i hi=>h i (c7.1 hi)
theorem NY {p:ah} (h:VP p):eT p=some (sb (vN p),0):=by
 have hb:=h.b;have h1:=h.sl;have h2:=h.ll;have h3:=h.rl;have hg:fmtG p.ae p.aa.length p.ac.length p.am.length (fmtS p) (OQ p) (OL p) (LB p) (OI p)=true:=by
  unfold fmtG;have e1:sU p.aa.length (fun i=>sU 5 fun j=>BZ (fmtS p i j))=true:=qo fun i hi=>qo fun j hj=>by
   obtain⟨k1,k2,k3,k4,k5⟩:=h.src i hi
   match j,hj with
   |0,_=>exact iY (z:=(at' p.aa i).bus) (by omega)
   |1,_=>exact iY (z:=(at' p.aa i).kind) (by omega)
   |2,_=>exact iY (z:=(at' p.aa i).power) (by omega)
   |3,_=>exact iY (z:=(at' p.aa i).br) (by omega)
   |4,_=>exact iY (z:=(at' p.aa i).ohm) (by omega)
  have e2:sU p.ac.length (fun i=>sU 5 (fun j=>BZ (OQ p i j)) && decide (LB p i<=1000) && sU (LB p i) fun g=>sU 2 fun j=>BZ (OI p i g j))=true:=qo fun i hi=>by
   obtain⟨k1,k2,_,k3,k4,k5,k6,k7,_⟩:=h.lnk i hi;rw [ce,ce];refine⟨⟨qo fun j hj=> ?_,bz (show(at' p.ac i).trip.length<=1000 by omega)⟩,qo fun g hg=>qo fun j hj=> ?_⟩
   ·match j,hj with
    |0,_=>exact iY (z:=(at' p.ac i).a) (by omega)
    |1,_=>exact iY (z:=(at' p.ac i).b) (by omega)
    |2,_=>exact iY (z:=(at' p.ac i).kind) (by omega)
    |3,_=>exact iY (z:=(at' p.ac i).most) (by omega)
    |4,_=>exact iY (z:=(at' p.ac i).ohm) (by omega)
   ·have hg:g<(at' p.ac i).trip.length:=hg;have:=Am hg (k7 g hg)
    match j,hj with
    |0,_=>exact iY (z:=(at' (at' p.ac i).trip g).bp) (by omega)
    |1,_=>exact iY (z:=(at' (at' p.ac i).trip g).bi) (by omega)
  have e3:sU p.am.length (fun i=>sU 4 fun j=>BZ (OL p i j))=true:=qo fun i hi=>qo fun j hj=>by
   obtain⟨k1,k2,_,k3,k4⟩:=h.rck i hi;have k5:jF (at' p.am i)<=2:=by unfold jF;split<;>omega
   match j,hj with
   |0,_=>exact iY (z:=(at' p.am i).bh.e0) (by omega)
   |1,_=>exact iY (z:=(at' p.am i).bh.e1) (by omega)
   |2,_=>exact iY (z:=(at' p.am i).power) (by omega)
   |3,_=>exact iY (z:=(at' p.am i).bk) (by omega)
  have e4:(NH p.ae p.aa.length p.ac.length p.am.length (fmtS p) (OQ p) (OL p) (LB p) (OI p)).length<=140737488355328:=by
   have:=tY h;rw [<-MU]at this;exact d7 this (by omega)
  rw [iY (by omega),e1,e2,e3,bz e4,bz (by omega),bz (by omega),bz (by omega)];rfl
 unfold eT;rw [xM p h.small,bt,fq.mpr h,bz rfl,bu,hg,bu,MU]
theorem Nw {p:ah} (hs:Small p) (h: ¬ VP p):eT p=some (⟨#[]⟩,fZ p):=by
 unfold eT;rw [xM p hs,bt,b_ (fun e=>h (fq.mp e)),bv]
def yt (b:Bool):UInt8:=bif b then 49 else 48
def jr (j:Nat) (l:List Bool):List UInt8:=fU j++32::l.map yt
def UF (ws:List (List UInt8)) (j:Nat):List Bool:=if j<ws.length then(aJ (sb (Lib.cut (at' ws j) [32]).2.1)).map fun b=>decide (b=49)else []
theorem oC {α β:Type} {o:Option α} {x:α} (h:o=some x) {k:α->Option β} {r:Option β} (hk:k x=r):o.bind k=r:=by
 rw [h];exact hk
theorem Vj (r:ByteArray × ByteArray × Bool) (hl:(aJ r.2.1).length<=1000000):aH (cO r) FUEL ([],0)=some (.brk ((aJ r.2.1).map fun b=>decide (b=49))):=by
 have key:=eY (N:=FUEL) (body:=cO r) (fun t=>(((aJ r.2.1).take t).map fun b=>decide (b=49),(t:Int))) (aJ r.2.1).length (.brk ((aJ r.2.1).map fun b=>decide (b=49))) (fuel_lt (by omega)) (fun t ht=> ?_) ?_;·exact key
 ·unfold cO;dsimp only;rw [bz (by omega),bu,aB ⟨by omega,by omega⟩,bx,aB (by simp only [dt,d_,cx];omega),wr (by omega),d9 ht,List.map_append];rfl
 ·unfold cO;dsimp only;rw [b_ (by omega),bv,ec]
theorem L1e:vK=cO:=rfl
theorem L2e:vQ=cO:=rfl
theorem L3e:wz=cO:=rfl
theorem L4e:vM=cO:=rfl
theorem L5e:vH=cO:=rfl
theorem L6e:vJ=cO:=rfl
theorem fQ (ws:List (List UInt8)) {j:Nat} (hj:j<ws.length):at' (ws.map sb) j=sb (at' ws j):=by
 rw [fM (by simpa using hj),fM hj,List.getElem_map]
theorem oI (ws:List (List UInt8)) (hw: ∀w∈ws,w.length<=200000) (j:Nat) (hj7:j<7):
  bA ((0:Int)<=(j:Int)/\(j:Int)<(7:Int)) (bif (decide ((j:Int)<((ws.map sb).length:Int)))then
   (dA (at' (ws.map sb) j) ⟨#[32]⟩).bind fun r=>bA ((0:Int)<=(j:Int)/\(j:Int)<((ws.map sb).length:Int)) (Option.bind (aH (cO r) FUEL (([]:List Bool),0)) fun o=>match o with
    | .ret v=>some v
    | .brk s=>some s)
   else some ([]:List Bool))=some (UF ws j):=by
 rw [aB (by omega)];unfold UF;by_cases h:j<ws.length
 ·have hl:=hw _ (at_mem h);have hc:=(Lm (at' ws j) 32).2;rw [bz (by rw [dt];omega),bu,fQ ws h,G5 (by omega),bt,aB (by rw [dt];omega),Vj _ (by simp only [aJ,dt];rw [oV];omega),cj h];rfl
 ·rw [b_ (by rw [dt];omega),bv,ci h]
def TP (ws:List (List UInt8)):State:=⟨UF ws 2,UF ws 3,UF ws 4,UF ws 0,UF ws 1,UF ws 5,UF ws 6⟩
def Z1:State:=⟨[],[],[],[],[],[],[]⟩
def wo (p:ah) (t:List UInt8):State × Int:=
 if fZ p≠0 then(Z1,fZ p)else if ol p (TP (aM 10 t))=0/\nC (M8 (TP (aM 10 t)))=sb t then(TP (aM 10 t),0)else(Z1,3)
theorem J7 {p:ah} {s:State} (hp:VP p) (hs:VS p s):lT s=some (nC (M8 s)):=by
 have h1:=hp.ll;have h2:=hp.sl;have h3:=hp.b;have k1:=hs.a_;have k2:=hs.ba;have k3:=hs.aq;have k4:=hs.on;have k5:=hs.ag;have k6:=hs.aw;have k7:=hs.ap;unfold lT;have hg:KW (M8 s)=true:=by
  unfold KW;refine qo fun q hq=>bz ?_
  match q,hq with
  |0,_=>show s.a_.length<=1000000;omega
  |1,_=>show s.ba.length<=1000000;omega
  |2,_=>show s.aq.length<=1000000;omega
  |3,_=>show s.on_.length<=1000000;omega
  |4,_=>show s.ag.length<=1000000;omega
  |5,_=>show s.aw.length<=1000000;omega
  |6,_=>show s.ap.length<=1000000;omega
 rw [hg];rfl
theorem Kt {p:ah} (hp:Small p) {t:List UInt8} (ht:t.length<=200000):og p (sb t)=some (wo p t):=by
 unfold og wo;rw [L1e,L2e,L3e,L4e,L5e,L6e,xM p hp,bt];by_cases h0:fZ p=0
 ·rw [bz h0,cE,bv,ML (by rw [aW];omega),bt,oV,ci (fun h=>h h0)];have hw: ∀w∈aM 10 t,w.length<=200000:=fun w hw=>d7 ((oL 10 t).1 w hw) ht;refine oC (o:=uO _) rfl ?_;refine oC (oI (aM 10 t) hw 0 (by omega)) ?_;refine oC (oI (aM 10 t) hw 1 (by omega)) ?_;refine oC (oI (aM 10 t) hw 2 (by omega)) ?_;refine oC (oI (aM 10 t) hw 3 (by omega)) ?_;refine oC (oI (aM 10 t) hw 4 (by omega)) ?_;refine oC (oI (aM 10 t) hw 5 (by omega)) ?_;refine oC (oI (aM 10 t) hw 6 (by omega)) ?_;refine oC (o8 p (TP (aM 10 t)) hp) ?_;by_cases hs:ol p (TP (aM 10 t))=0
  ·obtain⟨hv,hvs⟩:=jR.mp hs;rw [hs,bz rfl,cE];refine oC (show _=some (nC (M8 (TP (aM 10 t))))from J7 hv hvs) ?_;rw [rz,bv];by_cases hT:nC (M8 (TP (aM 10 t)))=sb t
   ·rw [bz hT,cj ⟨rfl,hT⟩];rfl
   ·rw [b_ hT,ci (fun h=>hT h.2)];rfl
  ·rw [b_ hs,ci (fun h=>hs h.1)];rfl
 ·rw [b_ h0,cF,bu,cj h0];rfl
theorem IV (l:List Bool): ∀i,i<=l.length->xJ (fun i=>l.getD i false) i=(l.take i).map yt
 |0,_=>rfl
 |i+1,h=>by
  have hi:i<l.length:=by omega
  rw [xJ,IV l i (by omega),d9 hi,List.map_append];rfl
def SB (l:Nat->List Bool):Nat->List (List UInt8)
 |0=>[]
 |j+1=>SB l j++[jr j (l (oq j))]
theorem ve (l:Nat->List Bool): ∀j,pM (fun q=>(l q).length) (fun q i=>(l q).getD i false) j=((SB l j).map (· ++[10])).flatten
 |0=>rfl
 |j+1=>by
  rw [pM,ve l j,SB,List.map_append,List.flatten_append,IV _ _ (cz _),ec];simp [jr]
theorem FQ: ∀(ws:List (List UInt8)),(∀w∈ws,10 ∉ w)->aM 10 ((ws.map (· ++[10])).flatten)=ws++[[]]
 |[],_=>rfl
 |w::ws,h=>by
  rw [cM,List.flatten_cons,cR];show aM 10 (w++10::(ws.map (· ++[10])).flatten)=_;rw [lK (h w cw),FQ ws fun x hx=>h x (ct _ hx)];rfl
theorem O6: ∀j,j<7->32 ∉ fU j/\10 ∉ fU j:=by decide
theorem Yg {j:Nat} (hj:j<7) (l:List Bool):10 ∉ jr j l:=by
 unfold jr;intro h;rcases cA.1 h with h|h;·exact(O6 j hj).2 h
 ·rcases ej.1 h with h|h
  ·exact absurd h (by decide)
  ·obtain⟨b,_,hb⟩:=List.mem_map.1 h;cases b<;>exact absurd hb (by decide)
theorem mM {j:Nat} (hj:j<7) (l:List Bool):(aJ (sb (Lib.cut (jr j l) [32]).2.1)).map (fun b=>decide (b=49))=l:=by
 unfold jr;rw [vE (O6 j hj).1];unfold aJ;rw [oV,List.map_map,List.map_map]
 conv=>rhs;rw [<-List.map_id l]
 refine List.map_congr_left fun b _=> ?_;cases b<;>rfl
theorem NM (l:Nat->List Bool):aM 10 (pM (fun q=>(l q).length) (fun q i=>(l q).getD i false) 7)=[jr 0 (l 3),jr 1 (l 4),jr 2 (l 0),jr 3 (l 1),jr 4 (l 2),jr 5 (l 5),jr 6 (l 6),[]]:=by
 rw [ve];show aM 10 (([jr 0 (l 3),jr 1 (l 4),jr 2 (l 0),jr 3 (l 1),jr 4 (l 2),jr 5 (l 5),jr 6 (l 6)].map (· ++[10])).flatten)=_;rw [FQ _ fun w hw=> ?_];·rfl
 ·simp only [ej,List.not_mem_nil,or_false]at hw;rcases hw with rfl|rfl|rfl|rfl|rfl|rfl|rfl<;>exact Yg (by decide) _
theorem LC {p:ah} {s:State} (hp:VP p) (hs:VS p s):og p (nC (M8 s))=some (s,0):=by
 have h1:=hp.ll;have h2:=hp.sl;have h3:=hp.b;have k1:=hs.a_;have k2:=hs.ba;have k3:=hs.aq;have k4:=hs.on;have k5:=hs.ag;have k6:=hs.aw;have k7:=hs.ap;have hd:TP (aM 10 (pM (fun q=>(M8 s q).length) (fun q i=>(M8 s q).getD i false) 7))=s:=by
  rw [NM];unfold TP UF;rw [cj (by simp),cj (by simp),cj (by simp),cj (by simp),cj (by simp),cj (by simp),cj (by simp)];show State.mk ((aJ (sb (Lib.cut (jr 2 s.a_) [32]).2.1)).map _) ((aJ (sb (Lib.cut (jr 3 s.ba) [32]).2.1)).map _) ((aJ (sb (Lib.cut (jr 4 s.aq) [32]).2.1)).map _) ((aJ (sb (Lib.cut (jr 0 s.on_) [32]).2.1)).map _) ((aJ (sb (Lib.cut (jr 1 s.ag) [32]).2.1)).map _) ((aJ (sb (Lib.cut (jr 5 s.aw) [32]).2.1)).map _) ((aJ (sb (Lib.cut (jr 6 s.ap) [32]).2.1)).map _)=s;rw [mM (by decide),mM (by decide),mM (by decide),mM (by decide),mM (by decide),mM (by decide),mM (by decide)]
 have hl:(pM (fun q=>(M8 s q).length) (fun q i=>(M8 s q).getD i false) 7).length<=200000:=by
  rw [ve];show(([jr 0 s.on_,jr 1 s.ag,jr 2 s.a_,jr 3 s.ba,jr 4 s.aq,jr 5 s.aw,jr 6 s.ap].map (· ++[10])).flatten).length<=_;simp [jr,fU];omega
 unfold nC;rw [Kt hp.small hl];unfold wo;rw [hd,ci (fun h=>h (fq.mpr hp)),cj ⟨jR.mpr ⟨hp,hs⟩,rfl⟩]
theorem CW (a b:Bool):(bif a then true else b)=(a||b):=by cases a<;>rfl
theorem U8 (a b:Bool):(bif a then b else false)=(a && b):=by cases a<;>rfl
theorem AB (n a b:Int):(decide (n<a)||decide (b<n))= !wi n a b:=by
 unfold wi;by_cases h1:a<=n<;>by_cases h2:n<=b<;>simp [h1,h2]<;>omega
theorem Oy (x:Link) (hx:x.trip.length<=9223372036854775807):aH (mH x) FUEL 0=some (match(List.range x.trip.length).find? (jA x.trip)with|some _=> .ret false|none=> .brk ()):=by
 refine gQ x.trip.length (jA x.trip) (fun _=>false) hx (fun i hi=> ?_) ?_
 ·have h1:decide ((i:Int)<(x.trip.length:Int))=true:=bz (by omega);unfold mH;simp only [bx];rw [h1,bu,aB (by omega)];simp only [CW];rw [AB,Bool.or_assoc,AB];unfold jA;by_cases h0:0<i
  ·have hd:decide ((0:Int)<(i:Int))=true:=bz (by omega);rw [wr (show -9223372036854775808<=(i:Int) - 1/\(i:Int) - 1<=9223372036854775807 by omega),Pj _ _ h0,aB ⟨fun _=>by omega,fun _=>by omega⟩,hd,wr (by omega),bz h0];generalize wi (at' x.trip i).bp 1 1000000=b1;generalize wi (at' x.trip i).bi 1 100000=b2;generalize decide ((at' x.trip i).bp<=(at' x.trip (i - 1)).bp)=b3;generalize decide ((at' x.trip (i - 1)).bi<=(at' x.trip i).bi)=b4;cases b1<;>cases b2<;>cases b3<;>cases b4<;>rfl
  ·have hi0:i=0:=by omega
   subst hi0;rw [aB ⟨fun h=>by simp [gB]at h,fun h=>by simp [gB]at h⟩];generalize wi (at' x.trip 0).bp 1 1000000=b1;generalize wi (at' x.trip 0).bi 1 100000=b2;cases b1<;>cases b2<;>rfl
 ·have h1:decide ((x.trip.length:Int)<(x.trip.length:Int))=false:=b_ (by omega);unfold mH;rw [h1];rfl
theorem VY (n a b:Int):(decide (n<a)||decide (b<=n))= !wi n a (b - 1):=by
 rw [<-AB];congr 1;exact decide_eq_decide.mpr (by omega)
theorem Hf (n a b:Int) (c:Bool):(decide (n<a)||(decide (b<=n)||c))=(!wi n a (b - 1)||c):=by rw [<-Bool.or_assoc,VY]
theorem OP (p:ah) (x:Link) (hx:x.trip.length<=9223372036854775807):qh p x=some (kK p.ae x):=by
 unfold qh kK;rw [Oy x hx];simp only [CW,U8,Bool.or_assoc,AB,Hf];generalize wi x.a 0 (p.ae - 1)=b1;generalize wi x.b 0 (p.ae - 1)=b2;generalize wi x.kind 1 3=b4;generalize wi x.most 1 100000=b5;generalize wi x.ohm 10 100000=b6;have:(List.range x.trip.length).any (jA x.trip)=((List.range x.trip.length).find? (jA x.trip)).isSome:=(tH _ _).symm;rw [this];have e6:decide ((x.trip.length:Int)<=6)= !decide (6<(x.trip.length:Int)):=by
  by_cases h:(x.trip.length:Int)<=6<;>simp [h]<;>omega
 have e0:decide ((x.trip.length:Int)=0)= !decide (0<(x.trip.length:Int)):=by
  rw [<-decide_not];exact decide_eq_decide.mpr (by omega)
 rw [e6,e0];generalize decide (6<(x.trip.length:Int))=b7;generalize decide (0<(x.trip.length:Int))=b8;generalize decide (x.kind=3)=b9;generalize decide (x.a=x.b)=b3;cases(List.range x.trip.length).find? (jA x.trip)<;>cases b1<;>cases b2<;>cases b3<;>cases b4<;>cases b5<;>cases b6<;>cases b7<;>cases b8<;>cases b9<;>rfl
theorem Qe (p:ah) (hl:p.aa.length<=9223372036854775807):aH (lG p) FUEL 0=some (match(List.range p.aa.length).find? (fun i=> !pJ p.ae (at' p.aa i))with|some _=> .ret 11|none=> .brk ()):=by
 refine gQ p.aa.length _ (fun _=>11) hl (fun i hi=> ?_) ?_
 ·have h1:decide ((i:Int)<(p.aa.length:Int))=true:=bz (by omega);unfold lG;simp only [bx];rw [h1,bu,aB (by omega),wr (by omega)];simp only [CW,Bool.or_assoc,AB,Hf];unfold pJ;generalize wi (at' p.aa i).bus 0 (p.ae - 1)=b1;generalize wi (at' p.aa i).kind 1 3=b2;generalize wi (at' p.aa i).power 1 100000=b3;generalize wi (at' p.aa i).br 0 8=b4;generalize wi (at' p.aa i).ohm 10 100000=b5;cases b1<;>cases b2<;>cases b3<;>cases b4<;>cases b5<;>rfl
 ·have h1:decide ((p.aa.length:Int)<(p.aa.length:Int))=false:=b_ (by omega);unfold lG;rw [h1];rfl
theorem KM (p:ah) (hl:p.ac.length<=9223372036854775807) (ht: ∀x∈p.ac,x.trip.length<=9223372036854775807):aH (lD p) FUEL 0=some (match(List.range p.ac.length).find? (fun i=> !kK p.ae (at' p.ac i))with|some _=> .ret 12|none=> .brk ()):=by
 refine gQ p.ac.length _ (fun _=>12) hl (fun i hi=> ?_) ?_
 ·have h1:decide ((i:Int)<(p.ac.length:Int))=true:=bz (by omega);unfold lD;simp only [bx];rw [h1,bu,OP p _ (ht _ (at_mem hi)),bt,aB (by omega),wr (by omega)];exact Cj _ _ _
 ·have h1:decide ((p.ac.length:Int)<(p.ac.length:Int))=false:=b_ (by omega);unfold lD;rw [h1];rfl
theorem MG (p:ah) (hl:p.am.length<=9223372036854775807):aH (lI p) FUEL 0=some (match(List.range p.am.length).find? (fun i=> !kW p.ae (at' p.am i))with|some _=> .ret 13|none=> .brk ()):=by
 refine gQ p.am.length _ (fun _=>13) hl (fun i hi=> ?_) ?_
 ·have h1:decide ((i:Int)<(p.am.length:Int))=true:=bz (by omega);unfold lI;simp only [bx];rw [h1,bu,aB (by omega),wr (by omega)];simp only [CW,Bool.or_assoc,AB,Hf];unfold kW jF;by_cases h:(at' p.am i).bh.e1= -1
  ·rw [bz h,bu,cj h];generalize wi (at' p.am i).bh.e0 0 (p.ae - 1)=b1;generalize wi (at' p.am i).bh.e1 (-1) (p.ae - 1)=b2;generalize wi (at' p.am i).power 1 100000=b3;generalize wi (at' p.am i).bk 0 1=b4;generalize decide ((at' p.am i).bh.e0=(at' p.am i).bh.e1)=b5;cases b1<;>cases b2<;>cases b3<;>cases b4<;>cases b5<;>rfl
  ·rw [b_ h,bv,ci h];generalize wi (at' p.am i).bh.e0 0 (p.ae - 1)=b1;generalize wi (at' p.am i).bh.e1 (-1) (p.ae - 1)=b2;generalize wi (at' p.am i).power 1 100000=b3;generalize wi (at' p.am i).bk 0 2=b4;generalize decide ((at' p.am i).bh.e0=(at' p.am i).bh.e1)=b5;cases b1<;>cases b2<;>cases b3<;>cases b4<;>cases b5<;>rfl
 ·have h1:decide ((p.am.length:Int)<(p.am.length:Int))=false:=b_ (by omega);unfold lI;rw [h1];rfl
theorem Fx {α:Type} [Inhabited α] (l:List α) (ok:α->Bool):((List.range l.length).find? fun i=> !ok (at' l i)).isNone=l.all ok:=by
 cases h:(List.range l.length).find? fun i=> !ok (at' l i)with
 |none=>
  rw [List.find?_eq_none]at h;symm;rw [Option.isNone_none,List.all_eq_true];intro x hx;obtain⟨i,hi,e⟩:=jG hx;have:=h i (List.mem_range.mpr hi);rw [e]at this;simpa using this
 |some k=>
  rw [List.find?_range_eq_some]at h;obtain⟨h1,h2,_⟩:=h;rw [c7]at h2;symm;rw [Option.isNone_some,List.all_eq_false];exact⟨_,at_mem h2,by simpa using h1⟩
theorem nk (p:ah) (hp:Small p):gM p=some (fZ p):=by
 unfold gM fZ;rw [Qe p hp.src,KM p hp.lnk hp.trp,MG p hp.rck];rw [<-Fx p.aa,<-Fx p.ac,<-Fx p.am];simp only [CW,AB];have e1:decide (8<(p.aa.length:Int))= !decide ((p.aa.length:Int)<=8):=by
  by_cases h:(p.aa.length:Int)<=8<;>simp [h]<;>omega
 have e2:decide (40<(p.ac.length:Int))= !decide ((p.ac.length:Int)<=40):=by
  by_cases h:(p.ac.length:Int)<=40<;>simp [h]<;>omega
 have e3:decide (24<(p.am.length:Int))= !decide ((p.am.length:Int)<=24):=by
  by_cases h:(p.am.length:Int)<=24<;>simp [h]<;>omega
 rw [e1,e2,e3];generalize wi p.ae 1 24=b1;generalize decide ((p.aa.length:Int)<=8)=b2;generalize decide ((p.ac.length:Int)<=40)=b3;generalize decide ((p.am.length:Int)<=24)=b4;cases(List.range p.aa.length).find? (fun i=> !pJ p.ae (at' p.aa i))<;>cases(List.range p.ac.length).find? (fun i=> !kK p.ae (at' p.ac i))<;>cases(List.range p.am.length).find? (fun i=> !kW p.ae (at' p.am i))<;>
  cases b1<;>cases b2<;>cases b3<;>cases b4<;>rfl
theorem LH (p:ah) (s:State) (hl:p.ac.length<=9223372036854775807) (h1:s.a_.length=p.ac.length) (h2:s.ba.length=p.ac.length):
  aH (lN p s) FUEL 0=some (match(List.range p.ac.length).find? (eX p s)with|some _=> .ret false|none=> .brk ()):=by
 refine gQ p.ac.length _ (fun _=>false) hl (fun i hi=> ?_) ?_
 ·have hd:decide ((i:Int)<(p.ac.length:Int))=true:=bz (by omega);unfold lN;simp only [bx];rw [hd,bu,aB ⟨by omega,fun _=>by omega,fun _=>by omega⟩,wr (by omega)];unfold eX;cases decide ((at' p.ac i).kind=1)<;>cases at' s.a_ i<;>cases at' s.ba i<;>rfl
 ·have hd:decide ((p.ac.length:Int)<(p.ac.length:Int))=false:=b_ (by omega);unfold lN;rw [hd];rfl
theorem D9 (p:ah) (s:State) (hl:p.ac.length<=9223372036854775807):l9 p s=some (jk p s && !(List.range p.ac.length).any (eX p s)):=by
 unfold l9;simp only [CW];have e:(!decide ((s.a_.length:Int)=(p.ac.length:Int))|| !decide ((s.ba.length:Int)=(p.ac.length:Int))|| !decide ((s.aq.length:Int)=(p.ac.length:Int))|| !decide ((s.on_.length:Int)=(p.aa.length:Int))|| !decide ((s.ag.length:Int)=(p.aa.length:Int))|| !decide ((s.aw.length:Int)=p.ae)|| !decide ((s.ap.length:Int)=p.ae))= !jk p s:=by
  unfold jk;simp only [Int.natCast_inj,Bool.not_and]
 rw [e];cases hL:jk p s with
 |false=>rfl
 |true=>
  have hL':=hL;unfold jk at hL';simp only [ce,dg]at hL';rw [LH p s hl hL'.1.1.1.1.1.1 hL'.1.1.1.1.1.2,<-tH];cases(List.range p.ac.length).find? (eX p s)<;>rfl
theorem CQ (p:ah) (s:State) (hp:Small p):ko p s=some (ol p s):=by
 unfold ko ol;rw [nk p hp,bt,D9 p s hp.lnk];by_cases h:fZ p=0
 ·rw [bz h,ci (by simp [h])];generalize (jk p s && !(List.range p.ac.length).any (eX p s))=b;cases b<;>simp [gB,h]
 ·rw [b_ h,cj h];simp [gB]
theorem pY (l:List UInt8):(⟨l.toArray⟩:ByteArray)=sb l:=rfl
theorem jD (a b:List UInt8):ax (sb a) (sb b)=sb (a++b):=by
 unfold ax sb;apply ByteArray.ext;simp [ByteArray.data_append]
theorem sJ (l:List UInt8) (i j:Nat):jh (sb l) i j=sb ((l.take j).drop i):=by
 unfold jh sb;apply ByteArray.ext;simp [ByteArray.data_extract,List.extract_eq_take_drop,List.drop_take]
theorem Q5 (l:List UInt8):aJ (sb l)=l.map fun b=>(b.toNat:Int):=by
 unfold aJ;rw [oV]
theorem rG {l:List UInt8} {i:Nat} (h:i<l.length):at' (aJ (sb l)) i=((at' l i).toNat:Int):=by
 rw [Q5,fM (by simpa using h),fM h,List.getElem_map]
theorem Bv (n:Int):DU [n]=sb [UInt8.ofNat n.toNat]:=rfl
theorem vo (a b:List UInt8):((sb a).toList==(sb b).toList)=decide (a=b):=by
 rw [rz];exact decide_eq_decide.mpr ⟨zH,fun h=>by rw [h]⟩
theorem KP {d:Int} (h:0<=d/\d<=9):(([IntKind.wrap .u8 (IntKind.wrap .i64 (48+d))].map (DV.int .u8)).all Ce=true)/\IntKind.wrap .u8 (IntKind.wrap .i64 (48+d))=48+d:=by
 have e:IntKind.wrap .u8 (IntKind.wrap .i64 (48+d))=48+d:=by
  rw [wr (by omega)];show(48+d) % 256=48+d;omega
 refine⟨?_,e⟩;rw [e];show(decide (0<=48+d/\48+d<=255) && true)=true;rw [bz (by omega)];rfl
theorem Ua {u:Nat} (hu:0<u/\u<=9000000000) {k:Int} (hk:k=(u:Int)\/k= -(u:Int)) {acc:List UInt8} (ha:acc.length<=1000):
  ∃k':Int,iC (sb acc,k)=some (.next (sb (UInt8.ofNat (48+u % 10)::acc),k'))/\(k'=((u / 10:Nat):Int)\/k'= -((u / 10:Nat):Int)):=by
 have ht:Int.tmod k 10=((u % 10:Nat):Int)\/Int.tmod k 10= -((u % 10:Nat):Int):=by
  rcases hk with rfl|rfl;·left;rfl
  ·right;rw [Int.neg_tmod];rfl
 have hq:Int.tdiv k 10=((u / 10:Nat):Int)\/Int.tdiv k 10= -((u / 10:Nat):Int):=by
  rcases hk with rfl|rfl;·left;rfl
  ·right;rw [Int.neg_tdiv];rfl
 have hm:u % 10<10:=eN _ (by decide);have hne: ¬ k=0:=by omega
 refine⟨Int.tdiv k 10, ?_,hq⟩;unfold iC;dsimp only;rw [b_ hne,cF,bu,aB (by decide)];have hw:IntKind.wrap .i64 (Int.tdiv k 10)=Int.tdiv k 10:=wr (by omega);by_cases hs:Int.tmod k 10<0
 ·have e:IntKind.wrap .i64 (0 - Int.tmod k 10)=((u % 10:Nat):Int):=by rw [wr (by omega)];omega
  rw [bz hs,bu,e];obtain⟨c1,c2⟩:=KP (d:=((u % 10:Nat):Int)) (by omega);rw [aB ⟨c1,by rw [Bv,aW,aW,cx];omega⟩,aB (by decide),hw,c2,Bv,jD,show((48:Int)+((u % 10:Nat):Int)).toNat=48+u % 10 by omega];rfl
 ·have e:Int.tmod k 10=((u % 10:Nat):Int):=by omega
  rw [b_ hs,bv,e];obtain⟨c1,c2⟩:=KP (d:=((u % 10:Nat):Int)) (by omega);rw [aB ⟨c1,by rw [Bv,aW,aW,cx];omega⟩,aB (by decide),hw,c2,Bv,jD,show((48:Int)+((u % 10:Nat):Int)).toNat=48+u % 10 by omega];rfl
theorem UM (acc:List UInt8) (n:Nat):aH iC (n+1) (sb acc,0)=some (.brk (sb acc)):=by
 rw [ai];rfl
theorem Wt (u:Nat): ∀(k:Int) (acc:List UInt8) (n:Nat),0<u/\u<=9000000000->(k=(u:Int)\/k= -(u:Int))->acc.length+Lib.nDigits u<=1000->Lib.nDigits u<n->
  aH iC n (sb acc,k)=some (.brk (sb (Lib.decDigits u++acc))):=by
 induction u using Nat.strongRecOn with
 |_ u ih=>
  intro k acc n hu hk ha hn
  match n,hn with
  |n+1,hn=>
  obtain⟨k',h1,h2⟩:=Ua hu hk (acc:=acc) (by omega);rw [ai,h1];dsimp only;by_cases h:u<10
  ·have hk':k'=0:=by rw [Nat.div_eq_of_lt h]at h2;omega
   have:=Lib.nDigits_small h;obtain⟨n,rfl⟩: ∃m,n=m+1:=⟨n - 1,by omega⟩;rw [hk',UM,Lib.decDigits,dif_pos h,Nat.mod_eq_of_lt h];rfl
  ·have hd:=Lib.nDigits_big h;rw [ih (u / 10) (by omega) k' _ n (by omega) h2 (by rw [cY];omega) (by omega)]
   conv=>rhs;rw [Lib.decDigits,dif_neg h]
   rw [cR];rfl
theorem Ut {u:Nat} (h:u<=9000000000):Lib.nDigits u<=10:=Bn 9 u (by omega)
theorem dN {v:Int} (h: -9000000000<=v/\v<=9000000000):aV v=some (sb (Lib.itoa v)):=by
 unfold aV;by_cases h0:v=0
 ·subst h0;rw [bz rfl,bu];unfold Lib.itoa;rw [ci (by omega),Lib.decDigits,dif_pos (by decide)];rfl
 ·have hd:=Ut (u:=v.natAbs) (by omega);have hrun:=Wt v.natAbs v [] FUEL (by omega) (by omega) (by simp;omega) (by unfold FUEL;omega);rw [b_ h0,bv,show((⟨#[]⟩:ByteArray))=sb []from rfl,hrun,cW];show(bif decide (v<0)then bA ((⟨#[45]⟩:ByteArray).size+(sb (Lib.decDigits v.natAbs)).size<=9223372036854775807) (some (ax ⟨#[45]⟩ (sb (Lib.decDigits v.natAbs))))else some (sb (Lib.decDigits v.natAbs)))=_;unfold Lib.itoa;by_cases hs:v<0
  ·rw [bz hs,bu,cj hs,show((⟨#[45]⟩:ByteArray))=sb [45]from rfl,jD,aB]
   ·rfl
   ·rw [aW,aW,Lib.decDigits_length,cx];omega
  ·rw [b_ hs,bv,ci hs,show v.natAbs=v.toNat by omega]
theorem Sm {d:List UInt8} {i:Nat} (hi:i<d.length) (hl:d.length<=9) {n:Nat} (hn:n<1000000000):
  eP (sb d) ((n:Int),(i:Int))=some (match Lib.digitVal (at' d i)with|some q=> .next (((n*10+q:Nat):Int),((i+1:Nat):Int))|none=> .done (.ret (0,false))):=by
 unfold eP;dsimp only;have hu:=(at' d i).toNat_lt;rw [aW,bz (by omega),bu,bx,rG hi,aB ⟨by omega,fun _=>by omega⟩,aB (by omega)];unfold Lib.digitVal;by_cases h1:(at' d i).toNat<48;·rw [bz (by omega),bu,ci (by omega)];rfl
 ·rw [b_ (by omega),bv];by_cases h2:57<(at' d i).toNat
  ·rw [bz (by omega),bu,ci (by omega)]
  ·rw [b_ (by omega),bv,cj (by omega),wr (x:=10*(n:Int)) (by omega),wr (x:=((at' d i).toNat:Int)) (by omega),wr (x:=10*(n:Int)+((at' d i).toNat:Int)) (by omega),wr (x:=_ - 48) (by omega),wr (by omega)];show some (bK.next (_,_))=some (bK.next (_,_));rw [show(10*(n:Int)+((at' d i).toNat:Int) - 48)=((n*10+((at' d i).toNat - 48):Nat):Int) by omega];rfl
theorem O8 {d:List UInt8} (hl:d.length<=9): ∀(r:List UInt8) (i n k:Nat),d.drop i=r->r.length<k->n<10 ^ i->i<=d.length->
  aH (eP (sb d)) k ((n:Int),(i:Int))=some (match Lib.decFrom n r with|some m=> .brk (m:Int)|none=> .ret (0,false))
 |[],i,n,k,hd,hk,hn,hi=>by
  match k,hk with
  |k+1,_=>
  have hle:d.length<=i:=by
   rcases Nat.lt_or_ge i d.length with h|h;·rw [eQ h]at hd;cases hd
   ·exact h
  rw [ai];unfold eP;dsimp only;rw [aW,b_ (by omega)];rfl
 |b::r,i,n,k,hd,hk,hn,hi=>by
  match k,hk with
  |k+1,hk=>
  have hlt:i<d.length:=by
   rcases Nat.lt_or_ge i d.length with h|h;·exact h
   ·rw [List.drop_eq_nil_of_le h]at hd;cases hd
  have hd2:=hd;rw [eQ hlt]at hd2;obtain⟨e1,e2⟩:=List.cons.inj hd2;have hp:10 ^ i<=10 ^ 8:=Nat.pow_le_pow_right (by decide) (by omega);rw [ai,Sm hlt hl (by omega),fM hlt,e1,Lib.decFrom];cases hq:Lib.digitVal b with
  |none=>rfl
  |some q=>
   have hq9:q<=9:=by
    unfold Lib.digitVal at hq;split at hq;·cases hq;omega
    ·cases hq
   simp only [cY]at hk;exact O8 hl r (i+1) (n*10+q) k e2 (by omega) (by rw [Nat.pow_succ];omega) (by omega)
theorem LQ {d:List UInt8} (hl:d.length<=9):aH (eP (sb d)) FUEL (0,0)=some (match Lib.decFrom 0 d with|some m=> .brk (m:Int)|none=> .ret (0,false)):=
 O8 hl d 0 0 FUEL rfl (by unfold FUEL;omega) (by decide) (by omega)
theorem yK: ∀(d:List UInt8) (n i m:Nat),n<10 ^ i->Lib.decFrom n d=some m->m<10 ^ (i+d.length)
 |[],n,i,m,hn,h=>by cases h;simpa using hn
 |b::d,n,i,m,hn,h=>by
  rw [Lib.decFrom]at h;cases hq:Lib.digitVal b with
  |none=>rw [hq]at h;cases h
  |some q=>
   have hq9:q<=9:=by
    unfold Lib.digitVal at hq;split at hq;·cases hq;omega
    ·cases hq
   rw [hq]at h;have:=yK d (n*10+q) (i+1) m (by rw [Nat.pow_succ];omega) h;rw [cY,show i+(d.length+1)=i+1+d.length by omega];exact this
def FX (neg:Bool) (l d:List UInt8):Int × Bool:=
 if d.length<1\/9<d.length then(0,false)else match Lib.decFrom 0 d with
 |some m=>(bif neg then -(m:Int)else(m:Int),decide (Lib.itoa (bif neg then -(m:Int)else(m:Int))=l))
 |none=>(0,false)
def tu:List UInt8->Int × Bool
 |[]=>(0,false)
 |b::d=>if b=45 then FX true (b::d) d else FX false (b::d) (b::d)
theorem JE (n:Nat):(bif decide ((n:Int)<1)then true else decide (9<(n:Int)))=decide (n<1\/9<n):=by
 rw [Bool.eq_iff_iff,de];by_cases h:(n:Int)<1;·simp [h];omega
 ·simp [h];omega
theorem RV (s:ByteArray):sH s=eP (jh s 1 s.size):=rfl
theorem number_eq (l:List UInt8):jE (sb l)=some (tu l):=by
 unfold jE;cases l with
 |nil=>rfl
 |cons b d=>
  have e1:jh (sb (b::d)) 1 (sb (b::d)).size=sb d:=by
   rw [sJ,aW,ec];rfl
  rw [RV,e1];have hs:(sb (b::d)).size=d.length+1:=by rw [aW,cY]
  rw [hs,bz (by omega),bu,aB (fun _=>by omega)];have ha:at' (aJ (sb (b::d))) 0=(b.toNat:Int):=rG (l:=b::d) (i:=0) (by simp);rw [ha];unfold tu;dsimp only;by_cases hb:b=45
  ·subst hb;rw [cj rfl,bz (by rfl),bu,aB (by omega),aW,JE];unfold FX;by_cases hc:d.length<1\/9<d.length
   ·rw [bz hc,bu,cj hc]
   ·rw [b_ hc,bv,ci hc,LQ (by omega)];cases hd:Lib.decFrom 0 d with
    |none=>rfl
    |some m=>
     have hm:=yK d 0 0 m (by decide) hd;have hm2:10 ^ (0+d.length)<=10 ^ 9:=Nat.pow_le_pow_right (by decide) (by omega);show(bif (!((sb d).toList==(sb (45::d)).toList))then _ else _)=_;rw [vo,b_ (fun e=>by have:=congrArg List.length e;simp at this),cF,bu,wr (x:=0 - (m:Int)) (by omega),dN (by omega),bt,vo,show 0 - (m:Int)= -(m:Int) by omega];rfl
  ·have hbn: ¬ ((b.toNat:Int)=45):=fun e=>hb (UInt8.toNat.inj (by show b.toNat=45;omega));rw [ci hb,b_ hbn,bv,JE];unfold FX;rw [cY];by_cases hc:d.length+1<1\/9<d.length+1
   ·rw [bz hc,bu,cj hc]
   ·rw [b_ hc,bv,ci hc,LQ (by rw [cY];omega)];cases hd:Lib.decFrom 0 (b::d)with
    |none=>rfl
    |some m=>
     have hm:=yK (b::d) 0 0 m (by decide) hd;have hm2:10 ^ (0+(b::d).length)<=10 ^ 9:=Nat.pow_le_pow_right (by decide) (by rw [cY];omega);show(bif (!((sb (b::d)).toList==(sb (b::d)).toList))then _ else _)=_;rw [vo,bz rfl,cE,bv,dN (by omega),bt,vo];rfl
theorem Oo {l:List UInt8} (h:(tu l).2=true):l=Lib.itoa (tu l).1/\ -999999999<=(tu l).1/\(tu l).1<=999999999:=by
 have key: ∀(neg:Bool) (d:List UInt8),(FX neg l d).2=true->l=Lib.itoa (FX neg l d).1/\ -999999999<=(FX neg l d).1/\(FX neg l d).1<=999999999:=fun neg d h=>by
  unfold FX at h ⊢;by_cases hc:d.length<1\/9<d.length;·rw [cj hc]at h;cases h
  ·rw [ci hc]at h ⊢;cases hd:Lib.decFrom 0 d with
   |none=>rw [hd]at h;cases h
   |some m=>
    rw [hd]at h;have hm:=yK d 0 0 m (by decide) hd;have hm2:10 ^ (0+d.length)<=10 ^ 9:=Nat.pow_le_pow_right (by decide) (by omega);refine⟨(of_decide_eq_true h).symm, ?_⟩;dsimp only;cases neg;·simp only [bv];omega
    ·simp only [bu];omega
 unfold tu at h ⊢;cases l with
 |nil=>cases h
 |cons b d=>
  dsimp only at h ⊢;by_cases hb:b=45;·rw [cj hb]at h ⊢;exact key _ _ h
  ·rw [ci hb]at h ⊢;exact key _ _ h
theorem Q0 {v:Int} (h: -999999999<=v/\v<=999999999):tu (Lib.itoa v)=(v,true):=by
 have hdl: ∀u:Nat,u<=999999999->1<=(Lib.decDigits u).length/\(Lib.decDigits u).length<=9:=fun u hu=>by
  have:=Bn 8 u (by omega);have:=Lib.nDigits_pos u;rw [Lib.decDigits_length];omega
 by_cases hs:v<0
 ·have e:Lib.itoa v=45::Lib.decDigits v.natAbs:=by unfold Lib.itoa;rw [cj hs]
  have hl:=hdl v.natAbs (by omega);rw [e];unfold tu;dsimp only;rw [cj rfl];unfold FX;rw [ci (by omega),nT];dsimp only;rw [bu,show -((v.natAbs:Nat):Int)=v by omega,e,bz rfl]
 ·have e:Lib.itoa v=Lib.decDigits v.toNat:=by unfold Lib.itoa;rw [ci hs]
  have hl:=hdl v.toNat (by omega);have hm:=AR v.toNat;have hf:=nT v.toNat;rw [e];cases hd:Lib.decDigits v.toNat with
  |nil=>exact absurd hd (yJ _)
  |cons b d=>
   rw [hd]at hm hl hf e;have hb:=hm b cw;unfold tu;dsimp only;rw [ci (fun e=>by subst e;simp at hb)];unfold FX;rw [ci (by omega),hf];dsimp only;rw [bv,show((v.toNat:Nat):Int)=v by omega,e,bz rfl]
theorem O1 {v:Int} (h:(Lib.trimPrefix (Lib.itoa v) [45]).length<=9): -999999999<=v/\v<=999999999:=by
 have hp: ∀u:Nat,Lib.nDigits u<=9->u<1000000000:=fun u hu=>by
  have h1:=Lib.lt_pow_nDigits u;have h2:10 ^ Lib.nDigits u<=10 ^ 9:=Nat.pow_le_pow_right (by decide) hu;omega
 by_cases hs:v<0
 ·have e:Lib.itoa v=45::Lib.decDigits v.natAbs:=by unfold Lib.itoa;rw [cj hs]
  have e2:Lib.trimPrefix (45::Lib.decDigits v.natAbs) [45]=Lib.decDigits v.natAbs:=by
   unfold Lib.trimPrefix;simp [Lib.hasPrefix]
  rw [e,e2,Lib.decDigits_length]at h;have:=hp _ h;omega
 ·have e:Lib.itoa v=Lib.decDigits v.toNat:=by unfold Lib.itoa;rw [ci hs]
  have e2:Lib.trimPrefix (Lib.decDigits v.toNat) [45]=Lib.decDigits v.toNat:=by
   have hm:=AR v.toNat;cases hd:Lib.decDigits v.toNat with
   |nil=>exact absurd hd (yJ _)
   |cons b d=>
    rw [hd]at hm;have hb:=hm b cw;have hne: ¬ 45=b:=fun e=>by subst e;simp at hb
    unfold Lib.trimPrefix;simp [Lib.hasPrefix,hne]
  rw [e,e2,Lib.decDigits_length]at h;have:=hp _ h;omega
theorem Qd {w:List UInt8} {v:Int} (h:gu w=some v):w=Lib.itoa v/\ -999999999<=v/\v<=999999999:=by
 have hw:w=Lib.itoa v:=zH (OO h);refine⟨hw,O1 ?_⟩;unfold gu numOf at h;split at h
 ·rename_i u hu;cases h1:(decide (sb (Lib.itoa u)=sb w) && decide ((Lib.trimPrefix (sb w).data.toList [45]).length<=9))with
  |false=>rw [h1]at h;cases h
  |true=>
   rw [ce,de,de,oV]at h1;rw [<-hw];exact h1.2
 ·cases h
theorem qH (w:List UInt8):gu w=if(tu w).2=true then some (tu w).1 else none:=by
 by_cases h:(tu w).2=true
 ·obtain⟨h1,h2⟩:=Oo h;rw [cj h]
  conv=>lhs;rw [h1]
  exact OV h2
 ·rw [ci h];cases hn:gu w with
  |none=>rfl
  |some v=>
   obtain⟨h1,h2⟩:=Qd hn;exact absurd (by rw [h1,Q0 h2]) h
theorem FR (c:UInt8) (s:List UInt8):aM c (s++[c])=aM c s++[[]]:=by
 refine yO c (P:=fun s=>aM c (s++[c])=aM c s++[[]]) (fun s h=> ?_) (fun a r ha ih=> ?_) s.length s (cz _);·rw [lK h,oM h];rfl
 ·rw [cR,d8,lK ha,lK ha,ih];rfl
theorem Eu {c b:UInt8} (hb:b≠c) (s:List UInt8):aM c (s++[b])=(aM c s).set ((aM c s).length - 1) (at' (aM c s) ((aM c s).length - 1)++[b]):=by
 refine yO c (P:=fun s=>aM c (s++[b])=(aM c s).set ((aM c s).length - 1) (at' (aM c s) ((aM c s).length - 1)++[b])) (fun s h=> ?_) (fun a r ha ih=> ?_) s.length s (cz _);·rw [oM h,oM (by simp [h,Ne.symm hb])];rfl
 ·rw [cR,d8,lK ha,lK ha,ih];have h0:=List.length_pos_iff.2 (Cu c r);obtain⟨m,hm⟩: ∃m,(aM c r).length=m+1:=⟨(aM c r).length - 1,by omega⟩;rw [cY,hm];rfl
theorem Sy {s:List UInt8} (hs:s.length<=1000000):oZ (sb s)=some ((aM 32 s).map sb):=by
 have key:=eY (N:=FUEL) (body:=jP (sb s)) (fun t=>((aM 32 (s.take t)).map sb,(t:Int))) s.length (.brk ((aM 32 s).map sb)) (fuel_lt (by omega)) (fun t ht=> ?_) ?_
 ·unfold oZ;show(aH (jP (sb s)) FUEL (((aM 32 (s.take 0)).map sb,((0:Nat):Int)))).bind _=_;rw [key];rfl
 ·have hn:=Cu 32 (s.take t);have hl:=(oL 32 (s.take t)).2;have hw:=(oL 32 (s.take t)).1;have h0:=List.length_pos_iff.2 hn;rw [d_]at hl;have hk:(((aM 32 (s.take t)).map sb).length:Int)=((aM 32 (s.take t)).length:Int):=by rw [dt]
  unfold jP;dsimp only;rw [aW,bz (by omega),bu,aB (by omega),bx,rG ht,wr (x:=(t:Int)+1) (by omega),d9 ht];by_cases hb:at' s t=32
  ·rw [hb,bz (by rfl),bu,aB (by simp only [dt,cx];omega),FR,List.map_append];rfl
  ·have hbn: ¬ (((at' s t).toNat:Int)=32):=fun e=>hb (UInt8.toNat.inj (by show(at' s t).toNat=32;omega));have hlast:at' ((aM 32 (s.take t)).map sb) ((aM 32 (s.take t)).length - 1)=sb (at' (aM 32 (s.take t)) ((aM 32 (s.take t)).length - 1)):=fQ _ (by omega);have hsub:jh (sb s) t (t+1)=sb [at' s t]:=by
    rw [sJ,d9 ht,List.drop_append_of_le_length (by rw [d_];omega),List.drop_eq_nil_of_le (by rw [d_];omega)];rfl
   have hmw:=hw _ (at_mem (l:=aM 32 (s.take t)) (i:=(aM 32 (s.take t)).length - 1) (by omega));rw [d_]at hmw;rw [b_ hbn,bv,hk,wr (x:=((aM 32 (s.take t)).length:Int) - 1) (by omega),show(((aM 32 (s.take t)).length:Int) - 1).toNat=(aM 32 (s.take t)).length - 1 by omega,show((t:Int)+1).toNat=t+1 by omega,hlast,hsub,jD,
    aB ⟨by omega,by omega,by rw [aW,aW,cx];omega⟩,Eu hb,List.map_set]
   rfl
 ·unfold jP;dsimp only;rw [aW,b_ (by omega),bv,ec]
theorem Ow {l:List (List UInt8)} {w:List UInt8} {i:Nat} (hi:i<l.length) (hl:l.length<=1000000):gW (l.map sb) (sb w) (i:Int)=some (if at' l i=w then .done (.ret (i:Int))else .next ((i+1:Nat):Int)):=by
 unfold gW;rw [bz (by rw [dt];omega),bu,aB (by rw [dt];omega),bx,fQ _ hi,vo,wr (by omega)];by_cases h:at' l i=w;·rw [bz h,cj h];rfl
 ·rw [b_ h,ci h];rfl
theorem QZ {l:List (List UInt8)} {w:List UInt8}:gW (l.map sb) (sb w) (l.length:Int)=some (.done (.brk ())):=by
 unfold gW;rw [b_ (by rw [dt];omega)];rfl
def UI (l:List (List UInt8)) (w:List UInt8):Nat->Nat->Int
 |_,0=>0
 |i,k+1=>if at' l i=w then(i:Int)else UI l w (i+1) k
theorem Io {l:List (List UInt8)} {w:List UInt8} (hl:l.length<=1000000): ∀(k i n:Nat),i+k=l.length->k<n->(aH (gW (l.map sb) (sb w)) n (i:Int)).bind (fun o=>match o with| .ret v=>some v| .brk _=>some 0)=some (UI l w i k)
 |0,i,n,h,hn=>by
  obtain⟨n,rfl⟩: ∃m,n=m+1:=⟨n - 1,by omega⟩;obtain rfl:i=l.length:=by omega
  rw [ai,QZ];rfl
 |k+1,i,n,h,hn=>by
  obtain⟨n,rfl⟩: ∃m,n=m+1:=⟨n - 1,by omega⟩;rw [ai,Ow (by omega) hl,UI];by_cases e:at' l i=w;·rw [cj e,cj e];rfl
  ·rw [ci e,ci e];exact Io hl k (i+1) n (by omega) (by omega)
theorem M6 (l:List (List UInt8)) (w:List UInt8) (hl:1<=l.length/\l.length<=1000000):bD (l.map sb) (sb w)=some (UI l w 1 (l.length - 1)):=by
 unfold bD;exact Io hl.2 (l.length - 1) 1 FUEL (by omega) (by unfold FUEL;omega)
theorem Gz (a b c w:List UInt8):bD [sb [],sb a,sb b,sb c] (sb w)=some ((pW a b c w).getD 0):=by
 refine(M6 [[],a,b,c] w (by simp)).trans ?_;show some (if a=w then 1 else if b=w then 2 else if c=w then 3 else 0)=_;unfold pW;by_cases h1:a=w;·rw [cj h1,cj h1.symm];rfl
 ·rw [ci h1,ci (Ne.symm h1)];by_cases h2:b=w
  ·rw [cj h2,cj h2.symm];rfl
  ·rw [ci h2,ci (Ne.symm h2)];by_cases h3:c=w
   ·rw [cj h3,cj h3.symm];rfl
   ·rw [ci h3,ci (Ne.symm h3)];rfl
theorem F8 (a b c w:List UInt8):(pW a b c w).getD 0=0↔pW a b c w=none:=by
 unfold pW;by_cases h1:w=a;·rw [cj h1];simp
 ·rw [ci h1];by_cases h2:w=b
  ·rw [cj h2];simp
  ·rw [ci h2];by_cases h3:w=c
   ·rw [cj h3];simp
   ·rw [ci h3];simp
theorem Nt (w:List UInt8):bD [sb [],sb jg,sb jC,sb pV,sb qb] (sb w)=some (gN w):=by
 refine(M6 [[],jg,jC,pV,qb] w (by simp)).trans ?_;show some (if jg=w then 1 else if jC=w then 2 else if pV=w then 3 else if qb=w then 4 else 0)=_;unfold gN;congr 1;by_cases h1:jg=w;·rw [cj h1,cj h1.symm]
 ·rw [ci h1,ci (Ne.symm h1)];by_cases h2:jC=w
  ·rw [cj h2,cj h2.symm]
  ·rw [ci h2,ci (Ne.symm h2)];by_cases h3:pV=w
   ·rw [cj h3,cj h3.symm]
   ·rw [ci h3,ci (Ne.symm h3)];by_cases h4:qb=w
    ·rw [cj h4,cj h4.symm]
    ·rw [ci h4,ci (Ne.symm h4)]
def Ka (w:List UInt8):Int:=if(Lib.cut w [58]).2.2=true then((Lib.cut w [58]).1.length:Int)else -1
theorem Te (l:List (List UInt8)) {i:Nat} (hi:i<l.length) (hw:(at' l i).length<=1000000) (h10:l.length<=1000000):aH (gZ (l.map sb) (i:Int)) FUEL (-1,0)=some (.brk (Ka (at' l i))):=by
 have hsz:(at' (l.map sb) i).size=(at' l i).length:=by rw [fQ _ hi,aW]
 have hc1:(0:Int)<=(i:Int)/\(i:Int)<(((l.map sb).length:Nat):Int):=by rw [dt];omega
 have hend: ∀v:Int,gZ (l.map sb) (i:Int) (v,((at' l i).length:Int))=some (.done (.brk v)):=fun v=>by
  unfold gZ;dsimp only;rw [aB hc1,bx,hsz,b_ (by omega)];rfl
 have hstep: ∀(v:Int) (t:Nat),t<(at' l i).length->gZ (l.map sb) (i:Int) (v,(t:Int))=some (.next (if at' (at' l i) t=58/\v<0 then(t:Int)else v,((t+1:Nat):Int))):=fun v t ht=>by
  unfold gZ;dsimp only;rw [aB hc1,bx,hsz,bz (by omega),bu,aB ⟨hc1,by omega⟩,bx,fQ _ hi,rG ht,wr (by omega)];by_cases hb:at' (at' l i) t=58
  ·rw [hb,bz (by rfl),bu];by_cases hv:v<0
   ·rw [bz hv,cj ⟨rfl,hv⟩];rfl
   ·rw [b_ hv,ci (fun h=>hv h.2)];rfl
  ·have hbn: ¬ (((at' (at' l i) t).toNat:Int)=58):=fun e=>hb (UInt8.toNat.inj (by show(at' (at' l i) t).toNat=58;omega));rw [b_ hbn,ci (fun h=>hb h.1)];rfl
 generalize at' l i=w at hw hend hstep;by_cases hm:58∈w
 ·obtain⟨a,r,rfl,ha⟩:=List.eq_append_cons_of_mem hm;have hcol:Ka (a++58::r)=(a.length:Int):=by unfold Ka;rw [vE ha,cj rfl]
  rw [hcol];refine eY (N:=FUEL) (fun t=>((if t<=a.length then -1 else(a.length:Int)),(t:Int))) (a++58::r).length _ (fuel_lt (by omega)) (fun t ht=> ?_) ?_
  ·rw [hstep _ t ht];rcases Nat.lt_trichotomy t a.length with h|h|h
   ·have hne:at' (a++58::r) t≠58:=fun e=>by
     rw [fM ht,List.getElem_append_left h]at e;exact ha (e ▸ List.getElem_mem h)
    rw [ci (fun h=>hne h.1),cj (by omega),cj (by omega)]
   ·subst h;have he:at' (a++58::r) a.length=58:=by rw [fM ht];simp
    rw [cj (cz _),cj ⟨he,by omega⟩,ci (by omega: ¬ a.length+1<=a.length)]
   ·rw [ci (by omega: ¬ t<=a.length),ci (fun h=>by omega),ci (by omega)]
  ·rw [hend];simp only [cd,cY];rw [ci (by omega)]
 ·have hcol:Ka w= -1:=by unfold Ka;rw [xX hm,ci (by simp)]
  rw [hcol];refine eY (N:=FUEL) (fun t=>(-1,(t:Int))) w.length _ (fuel_lt (by omega)) (fun t ht=> ?_) (hend _);have hne:at' w t≠58:=fun e=>hm (e ▸ at_mem ht);rw [hstep _ t ht,ci (fun h=>hne h.1)]
theorem Q6 (l:List (List UInt8)) {i:Nat} (hi:i<l.length) (hw:(at' l i).length<=1000000) (h10:l.length<=1000000) {acc:List aQ} (hacc:acc.length<=2000000):
  fD (l.map sb) (acc,(i:Int))=some (match DZ (at' l i)with|some x=> .next (acc++[x],((i+1:Nat):Int))|none=> .done (.ret ([],false))):=by
 have hc1:(0:Int)<=(i:Int)/\(i:Int)<(((l.map sb).length:Nat):Int):=by rw [dt];omega
 unfold fD;dsimp only;rw [bz hc1.2,bu,Te l hi hw h10,bt];dsimp only;rw [bx,fQ _ hi,aW];unfold DZ;by_cases hm:58∈at' l i
 ·obtain⟨a,r,hw2,ha⟩:=List.eq_append_cons_of_mem hm;have hcol:Ka (at' l i)=(a.length:Int):=by unfold Ka;rw [hw2,vE ha,cj rfl]
  have hlen:=congrArg List.length hw2;simp only [cd,cY]at hlen;have e1:jh (sb (at' l i)) 0 a.length=sb a:=by rw [sJ,hw2];simp
  have e2:jh (sb (at' l i)) (a.length+1) (at' l i).length=sb r:=by
   rw [sJ,ec,hw2];simp
  rw [hcol,b_ (by omega),bv,bx,e1,number_eq,bt,aB ⟨hc1,by omega⟩,wr (x:=(a.length:Int)+1) (by omega),show((a.length:Int)+1).toNat=a.length+1 by omega,e2,number_eq,bt,aB ⟨hc1,by omega⟩,
   wr (by omega)]
  rw [hw2,vE ha];dsimp only;rw [bu,qH a,qH r];cases hA:(tu a).2 with
  |false=>rfl
  |true=>
   cases hB:(tu r).2 with
   |false=>rfl
   |true=>
    show bA _ _=_;rw [aB (by simp only [cx];omega)];rfl
 ·have hcol:Ka (at' l i)= -1:=by unfold Ka;rw [xX hm,ci (by simp)]
  rw [hcol,xX hm];rfl
theorem FO (l:List (List UInt8)) (hw: ∀w∈l,w.length<=1000000) (h10:l.length<=1000000): ∀(r:List (List UInt8)) (i n:Nat) (acc:List aQ),l.drop i=r->r.length<n->acc.length+r.length<=1000000->
  aH (fD (l.map sb)) n (acc,(i:Int))=some (match jV r with|some x=> .brk (acc++x)|none=> .ret ([],false))
 |[],i,n,acc,hd,hn,_=>by
  obtain⟨n,rfl⟩: ∃m,n=m+1:=⟨n - 1,by omega⟩;have hle:l.length<=i:=by
   rcases Nat.lt_or_ge i l.length with h|h;·rw [eQ h]at hd;cases hd
   ·exact h
  have hb:fD (l.map sb) (acc,(i:Int))=some (.done (.brk acc)):=by
   unfold fD;dsimp only;rw [b_ (by rw [dt];omega)];rfl
  rw [ai,hb];show some _=some (Ex.brk (acc++[]));rw [cW]
 |w::r,i,n,acc,hd,hn,ha=>by
  obtain⟨n,rfl⟩: ∃m,n=m+1:=⟨n - 1,by omega⟩;have hlt:i<l.length:=by
   rcases Nat.lt_or_ge i l.length with h|h;·exact h
   ·rw [List.drop_eq_nil_of_le h]at hd;cases hd
  have hd2:=hd;rw [eQ hlt]at hd2;obtain⟨e1,e2⟩:=List.cons.inj hd2;simp only [cY]at hn ha;rw [ai,Q6 l hlt (hw _ (at_mem hlt)) h10 (by omega),fM hlt,e1,jV];cases DZ w with
  |none=>rfl
  |some t=>
   refine(FO l hw h10 r (i+1) n (acc++[t]) e2 (by omega) (by simp only [cd,cx];omega)).trans ?_;cases jV r with
   |none=>rfl
   |some x=>simp
theorem SS (l:List (List UInt8)) (hw: ∀w∈l,w.length<=1000000) (h10:l.length<=1000000):oW (l.map sb)=some (match jV l with|some x=>(x,true)|none=>([],false)):=by
 unfold oW;have:=FO l hw h10 l 0 FUEL [] rfl (by unfold FUEL;omega) (by simp;omega);show(aH (fD (l.map sb)) FUEL ([],((0:Nat):Int))).bind _=_;rw [this];cases jV l<;>rfl
def CY (R:Int) (i:Nat) (w:List UInt8):Option Int:=if R=2/\i=2 then pW rR BJ Bu w else if R=3/\i=3 then pW yQ yT yX w else gu w
theorem Qc:bU=some [sb [],sb rR,sb BJ,sb Bu]:=rfl
theorem Pz:dB=some [sb [],sb yQ,sb yT,sb yX]:=rfl
section
variable {p:ah} {ws:List (List UInt8)} {R:Int} (hlen:ws.length<=1000000)
include hlen
theorem je (hi:1<ws.length) (n0 n1 n2 n3 n4 n5 n6:Int):aP p (ws.map sb) R (n0,n1,n2,n3,n4,n5,n6,1)=some (match CY R 1 (at' ws 1)with|some v=> .next (n0,v,n2,n3,n4,n5,n6,2)|none=> .done (.ret (p,0))):=by
 unfold aP;dsimp only;rw [show(bif decide ((1:Int)<(((ws.map sb).length:Nat):Int))then decide ((1:Int)<6)else false)=true by rw [bz (by rw [dt];omega)];rfl,bu];unfold CY
 ·rw [show(bif decide (R=2)then decide ((1:Int)=2)else false)=false by cases decide (R=2)<;>rfl,bv,show(bif decide (R=3)then decide ((1:Int)=3)else false)=false by cases decide (R=3)<;>rfl,bv,ci (fun h=>absurd h.2 (by decide)),ci (fun h=>absurd h.2 (by decide))];rw [show(((1:Int)).toNat)=1 from rfl,fQ _ hi,number_eq,bt,aB (by rw [dt];omega),qH];cases(tu (at' ws 1)).2<;>rfl
theorem kZ (hi:2<ws.length) (n0 n1 n2 n3 n4 n5 n6:Int):aP p (ws.map sb) R (n0,n1,n2,n3,n4,n5,n6,2)=some (match CY R 2 (at' ws 2)with|some v=> .next (n0,n1,v,n3,n4,n5,n6,3)|none=> .done (.ret (p,0))):=by
 unfold aP;dsimp only;rw [show(bif decide ((2:Int)<(((ws.map sb).length:Nat):Int))then decide ((2:Int)<6)else false)=true by rw [bz (by rw [dt];omega)];rfl,bu];unfold CY;by_cases hR:R=2
 ·rw [show(bif decide (R=2)then decide ((2:Int)=2)else false)=true by rw [bz hR];rfl,bu,cj ⟨hR,rfl⟩];rw [show decide ((2:Int)=0)=false from rfl,bv,show decide ((2:Int)=1)=false from rfl,bv,show decide ((2:Int)=2)=true from rfl,bu,Qc,bt,fQ _ hi,Gz,bt,aB (by rw [dt];omega)];cases hk:pW rR BJ Bu (at' ws 2)with
  |none=>rfl
  |some k=>
   have hz: ¬ (some k:Option Int).getD 0=0:=fun e=>by have:=(F8 rR BJ Bu (at' ws 2)).1 (by rw [hk];exact e);rw [hk]at this;cases this
   rw [b_ hz];rfl
 ·rw [show(bif decide (R=2)then decide ((2:Int)=2)else false)=false by rw [b_ hR];rfl,bv,show(bif decide (R=3)then decide ((2:Int)=3)else false)=false by cases decide (R=3)<;>rfl,bv,ci (fun h=>hR h.1),ci (fun h=>absurd h.2 (by decide))];rw [show(((2:Int)).toNat)=2 from rfl,fQ _ hi,number_eq,bt,aB (by rw [dt];omega),qH];cases(tu (at' ws 2)).2<;>rfl
theorem oF (hi:3<ws.length) (n0 n1 n2 n3 n4 n5 n6:Int):aP p (ws.map sb) R (n0,n1,n2,n3,n4,n5,n6,3)=some (match CY R 3 (at' ws 3)with|some v=> .next (n0,n1,n2,v,n4,n5,n6,4)|none=> .done (.ret (p,0))):=by
 unfold aP;dsimp only;rw [show(bif decide ((3:Int)<(((ws.map sb).length:Nat):Int))then decide ((3:Int)<6)else false)=true by rw [bz (by rw [dt];omega)];rfl,bu];unfold CY;rw [show(bif decide (R=2)then decide ((3:Int)=2)else false)=false by cases decide (R=2)<;>rfl,bv,ci (fun h=>absurd h.2 (by decide))];by_cases hR:R=3
 ·rw [show(bif decide (R=3)then decide ((3:Int)=3)else false)=true by rw [bz hR];rfl,bu,cj ⟨hR,rfl⟩];rw [show decide ((3:Int)=0)=false from rfl,bv,show decide ((3:Int)=1)=false from rfl,bv,show decide ((3:Int)=2)=false from rfl,bv,show decide ((3:Int)=3)=true from rfl,bu,Pz,bt,fQ _ hi,Gz,bt,aB (by rw [dt];omega)];cases hk:pW yQ yT yX (at' ws 3)with
  |none=>rfl
  |some k=>
   have hz: ¬ (some k:Option Int).getD 0=0:=fun e=>by have:=(F8 yQ yT yX (at' ws 3)).1 (by rw [hk];exact e);rw [hk]at this;cases this
   rw [b_ hz];rfl
 ·rw [show(bif decide (R=3)then decide ((3:Int)=3)else false)=false by rw [b_ hR];rfl,bv,ci (fun h=>hR h.1)];rw [show(((3:Int)).toNat)=3 from rfl,fQ _ hi,number_eq,bt,aB (by rw [dt];omega),qH];cases(tu (at' ws 3)).2<;>rfl
theorem uV (hi:4<ws.length) (n0 n1 n2 n3 n4 n5 n6:Int):aP p (ws.map sb) R (n0,n1,n2,n3,n4,n5,n6,4)=some (match CY R 4 (at' ws 4)with|some v=> .next (n0,n1,n2,n3,v,n5,n6,5)|none=> .done (.ret (p,0))):=by
 unfold aP;dsimp only;rw [show(bif decide ((4:Int)<(((ws.map sb).length:Nat):Int))then decide ((4:Int)<6)else false)=true by rw [bz (by rw [dt];omega)];rfl,bu];unfold CY
 ·rw [show(bif decide (R=2)then decide ((4:Int)=2)else false)=false by cases decide (R=2)<;>rfl,bv,show(bif decide (R=3)then decide ((4:Int)=3)else false)=false by cases decide (R=3)<;>rfl,bv,ci (fun h=>absurd h.2 (by decide)),ci (fun h=>absurd h.2 (by decide))];rw [show(((4:Int)).toNat)=4 from rfl,fQ _ hi,number_eq,bt,aB (by rw [dt];omega),qH];cases(tu (at' ws 4)).2<;>rfl
theorem EZ (hi:5<ws.length) (n0 n1 n2 n3 n4 n5 n6:Int):aP p (ws.map sb) R (n0,n1,n2,n3,n4,n5,n6,5)=some (match CY R 5 (at' ws 5)with|some v=> .next (n0,n1,n2,n3,n4,v,n6,6)|none=> .done (.ret (p,0))):=by
 unfold aP;dsimp only;rw [show(bif decide ((5:Int)<(((ws.map sb).length:Nat):Int))then decide ((5:Int)<6)else false)=true by rw [bz (by rw [dt];omega)];rfl,bu];unfold CY
 ·rw [show(bif decide (R=2)then decide ((5:Int)=2)else false)=false by cases decide (R=2)<;>rfl,bv,show(bif decide (R=3)then decide ((5:Int)=3)else false)=false by cases decide (R=3)<;>rfl,bv,ci (fun h=>absurd h.2 (by decide)),ci (fun h=>absurd h.2 (by decide))];rw [show(((5:Int)).toNat)=5 from rfl,fQ _ hi,number_eq,bt,aB (by rw [dt];omega),qH];cases(tu (at' ws 5)).2<;>rfl
omit hlen in
theorem tX (i:Int) (hi:(ws.length:Int)<=i) (n0 n1 n2 n3 n4 n5 n6:Int):aP p (ws.map sb) R (n0,n1,n2,n3,n4,n5,n6,i)=some (.done (.brk (n0,n1,n2,n3,n4,n5,n6))):=by
 unfold aP;dsimp only;rw [b_ (by rw [dt];omega)];rfl
omit hlen in
theorem R8 (n0 n1 n2 n3 n4 n5 n6:Int):aP p (ws.map sb) R (n0,n1,n2,n3,n4,n5,n6,6)=some (.done (.brk (n0,n1,n2,n3,n4,n5,n6))):=by
 unfold aP;dsimp only;rw [show(bif decide ((6:Int)<(((ws.map sb).length:Nat):Int))then decide ((6:Int)<6)else false)=false by cases decide ((6:Int)<(((ws.map sb).length:Nat):Int))<;>rfl];rfl
omit hlen in
def gV (ws:List (List UInt8)) (R:Int) (i:Nat):Option Int:=if i<ws.length then CY R i (at' ws i)else some 0
omit hlen in
theorem dF {ws:List (List UInt8)} {R:Int} {i:Nat} (h:i<ws.length):gV ws R i=CY R i (at' ws i):=cj h
omit hlen in
theorem eB {ws:List (List UInt8)} {R:Int} {i:Nat} (h: ¬ i<ws.length):gV ws R i=some 0:=ci h
theorem yD:(aH (aP p (ws.map sb) R) FUEL (0,0,0,0,0,0,0,1)=some (.ret (p,0))/\(gV ws R 1=none\/gV ws R 2=none\/gV ws R 3=none\/gV ws R 4=none\/gV ws R 5=none))\/
  (∃a b c d e,aH (aP p (ws.map sb) R) FUEL (0,0,0,0,0,0,0,1)=some (.brk (0,a,b,c,d,e,0))/\gV ws R 1=some a/\gV ws R 2=some b/\gV ws R 3=some c/\gV ws R 4=some d/\gV ws R 5=some e):=by
 have up: ∀{x:Int × Int × Int × Int × Int × Int × Int × Int} {r:Ex (Int × Int × Int × Int × Int × Int × Int) (ah × Int)},aH (aP p (ws.map sb) R) 6 x=some r->aH (aP p (ws.map sb) R) FUEL x=some r:=fun h=>uY h (by unfold FUEL;omega);by_cases h1:1<ws.length
 ·cases e1:gV ws R 1 with
  |none=>exact .inl ⟨up (by rw [ai,je hlen h1,<-dF h1,e1]),by simp [e1]⟩
  |some a=>
   by_cases h2:2<ws.length
   ·cases e2:gV ws R 2 with
    |none=>exact .inl ⟨up (by rw [ai,je hlen h1,<-dF h1,e1];dsimp only;rw [ai,kZ hlen h2,<-dF h2,e2]),by simp [e2]⟩
    |some b=>
     by_cases h3:3<ws.length
     ·cases e3:gV ws R 3 with
      |none=>exact .inl ⟨up (by rw [ai,je hlen h1,<-dF h1,e1];dsimp only;rw [ai,kZ hlen h2,<-dF h2,e2];dsimp only;rw [ai,oF hlen h3,<-dF h3,e3]),by simp [e3]⟩
      |some c=>
       by_cases h4:4<ws.length
       ·cases e4:gV ws R 4 with
        |none=>exact .inl ⟨up (by rw [ai,je hlen h1,<-dF h1,e1];dsimp only;rw [ai,kZ hlen h2,<-dF h2,e2];dsimp only;rw [ai,oF hlen h3,<-dF h3,e3];dsimp only;rw [ai,uV hlen h4,<-dF h4,e4]),by simp [e4]⟩
        |some d=>
         by_cases h5:5<ws.length
         ·cases e5:gV ws R 5 with
          |none=>exact .inl ⟨up (by rw [ai,je hlen h1,<-dF h1,e1];dsimp only;rw [ai,kZ hlen h2,<-dF h2,e2];dsimp only;rw [ai,oF hlen h3,<-dF h3,e3];dsimp only;rw [ai,uV hlen h4,<-dF h4,e4];dsimp only;rw [ai,EZ hlen h5,<-dF h5,e5]),by simp [e5]⟩
          |some e=>
           exact .inr ⟨a,b,c,d,e,up (by rw [ai,je hlen h1,<-dF h1,e1];dsimp only;rw [ai,kZ hlen h2,<-dF h2,e2];dsimp only;rw [ai,oF hlen h3,<-dF h3,e3];dsimp only;rw [ai,uV hlen h4,<-dF h4,e4];dsimp only;rw [ai,EZ hlen h5,<-dF h5,e5];dsimp only;rw [ai,R8]),rfl,rfl,rfl,rfl,rfl⟩
         ·exact .inr ⟨a,b,c,d,0,up (by rw [ai,je hlen h1,<-dF h1,e1];dsimp only;rw [ai,kZ hlen h2,<-dF h2,e2];dsimp only;rw [ai,oF hlen h3,<-dF h3,e3];dsimp only;rw [ai,uV hlen h4,<-dF h4,e4];dsimp only;rw [ai,tX 5 (by omega)]),rfl,rfl,rfl,rfl,eB (by omega)⟩
       ·exact .inr ⟨a,b,c,0,0,up (by rw [ai,je hlen h1,<-dF h1,e1];dsimp only;rw [ai,kZ hlen h2,<-dF h2,e2];dsimp only;rw [ai,oF hlen h3,<-dF h3,e3];dsimp only;rw [ai,tX 4 (by omega)]),rfl,rfl,rfl,eB (by omega),eB (by omega)⟩
     ·exact .inr ⟨a,b,0,0,0,up (by rw [ai,je hlen h1,<-dF h1,e1];dsimp only;rw [ai,kZ hlen h2,<-dF h2,e2];dsimp only;rw [ai,tX 3 (by omega)]),rfl,rfl,eB (by omega),eB (by omega),eB (by omega)⟩
   ·exact .inr ⟨a,0,0,0,0,up (by rw [ai,je hlen h1,<-dF h1,e1];dsimp only;rw [ai,tX 2 (by omega)]),rfl,eB (by omega),eB (by omega),eB (by omega),eB (by omega)⟩
 ·exact .inr ⟨0,0,0,0,0,up (by rw [ai,tX 1 (by omega)]),eB (by omega),eB (by omega),eB (by omega),eB (by omega),eB (by omega)⟩
end
def lq (p:ah) (o:Option (Int × ah)):ah × Int:=match o with|some (r,q)=>(q,r)|none=>(p,0)
theorem lq1 {rank:Int} (h:(1:Int)≠0/\rank<=1/\((1:Int)<1↔0<rank)) (ws:List (List UInt8)) (p:ah):rX 1 rank ws p=if ws.length=2 then(gV ws 1 1).map fun n=>(1,⟨n,p.aa,p.ac,p.am⟩)else none:=by
 unfold rX;rw [cj h,cj rfl];by_cases hl:ws.length=2
 ·rw [cj hl]
  match ws,hl with
  |[w,b],_=>rfl
 ·rw [ci hl];split
  ·exact absurd rfl hl
  ·rfl
theorem lq2 {rank:Int} (h:(2:Int)≠0/\rank<=2/\((1:Int)<2↔0<rank)) (ws:List (List UInt8)) (p:ah):rX 2 rank ws p=((if ws.length=6 then
  (match gV ws 2 1,gV ws 2 2,gV ws 2 3,gV ws 2 4,gV ws 2 5 with|some a,some b,some c,some d,some e=>some (2,⟨p.ae,p.aa++[⟨a,b,c,d,e⟩],p.ac,p.am⟩)|_,_,_,_,_=>none)else none:Option (Int × ah))):=by
 unfold rX;rw [cj h,ci (by decide),cj rfl];by_cases hl:ws.length=6
 ·rw [cj hl]
  match ws,hl with
  |[w,a,b,c,d,e],_=>rfl
 ·rw [ci hl];split
  ·exact absurd rfl hl
  ·rfl
theorem lq3 {rank:Int} (h:(3:Int)≠0/\rank<=3/\((1:Int)<3↔0<rank)) (ws:List (List UInt8)) (p:ah):rX 3 rank ws p=((if 6<=ws.length then
  (match gV ws 3 1,gV ws 3 2,gV ws 3 3,gV ws 3 4,gV ws 3 5,jV (ws.drop 6)with|some a,some b,some c,some d,some e,some l=>some (3,⟨p.ae,p.aa,p.ac++[⟨a,b,c,d,e,l⟩],p.am⟩)|_,_,_,_,_,_=>none)else none:Option (Int × ah))):=by
 unfold rX;rw [cj h,ci (by decide),ci (by decide),cj rfl];by_cases hl:6<=ws.length
 ·rw [cj hl]
  match ws,hl with
  |w::a::b::c::d::e::ts,_=>
   have v: ∀i,i<6->gV (w::a::b::c::d::e::ts) 3 i=CY 3 i (at' (w::a::b::c::d::e::ts) i):=fun i hi=>dF (by simp only [cY];omega);rw [v 1 (by decide),v 2 (by decide),v 3 (by decide),v 4 (by decide),v 5 (by decide)];rfl
 ·rw [ci hl];split
  ·exact absurd (by simp only [cY];omega) hl
  ·rfl
theorem lq4 {rank:Int} (h:(4:Int)≠0/\rank<=4/\((1:Int)<4↔0<rank)) (ws:List (List UInt8)) (p:ah):rX 4 rank ws p=((if ws.length=5 then
  (match gV ws 4 1,gV ws 4 2,gV ws 4 3,gV ws 4 4 with|some a,some b,some c,some d=>some (4,⟨p.ae,p.aa,p.ac,p.am++[⟨⟨a,b⟩,c,d⟩]⟩)|_,_,_,_=>none)else none:Option (Int × ah))):=by
 unfold rX;rw [cj h,ci (by decide),ci (by decide),ci (by decide)];by_cases hl:ws.length=5
 ·rw [cj hl]
  match ws,hl with
  |[w,a,b,c,d],_=>rfl
 ·rw [ci hl];split
  ·exact absurd rfl hl
  ·rfl
theorem RQ (R rank:Int) (hr:0<=rank) (hR:0<=R):(bif (bif (decide (R=0))then true else(decide (R<rank)))then true else(!((decide (R=1))==(decide (rank=0)))))= !decide (R≠0/\rank<=R/\(1<R↔0<rank)):=by
 by_cases h0:R=0;·simp [h0]
 ·by_cases h1:R<rank
  ·have: ¬ rank<=R:=by omega
   simp [h0,h1,this]
  ·have h2:rank<=R:=by omega
   by_cases h3:R=1
   ·subst h3;by_cases h4:rank=0
    ·subst h4;rfl
    ·have:0<rank:=by omega
     simp [h4,h2,this]
   ·have h5:1<R:=by omega
    by_cases h4:rank=0;·subst h4;simp [h0,h3,h5]
    ·have:0<rank:=by omega
     simp [h0,h3,h4,h2,h1,this,h5]
theorem Fv {rank:Int} (hr:0<=rank) {s:List UInt8} (hs:s.length<=200000) {p:ah} (hp:Rm p):iO p rank (sb s)=some (lq p (zq rank (aM 32 s) p)):=by
 have hps:=hp.s;have hpl:=hp.l;have hpr:=hp.r;obtain⟨hw,hl⟩:=oL 32 s;have hne:=Cu 32 s;have hpos:=List.length_pos_iff.2 hne;unfold iO zq;rw [Sy (by omega),bt,fQ _ hpos];have hhd:at' (aM 32 s) 0=(aM 32 s).headD []:=by
  cases h:aM 32 s with
  |nil=>exact absurd h hne
  |cons a l=>rfl
 have hix:=Nt (at' (aM 32 s) 0);rw [show([(⟨#[]⟩:ByteArray),⟨#[112,108,97,110,116]⟩,⟨#[115,111,117,114,99,101]⟩,⟨#[108,105,110,107]⟩,⟨#[114,97,99,107]⟩])=[sb [],sb jg,sb jC,sb pV,sb qb]from rfl,hix,bt,hhd];obtain⟨hR0,hR4⟩:=yB ((aM 32 s).headD []);rw [aB (by rw [dt];omega)];generalize gN ((aM 32 s).headD [])=R at hR0 hR4;generalize aM 32 s=ws at hw hl;rw [RQ R rank hr hR0];by_cases hg:R≠0/\rank<=R/\(1<R↔0<rank)
 ·rw [bz hg,cE,bv];have hlen:ws.length<=1000000:=by omega
  have hR:R=1\/R=2\/R=3\/R=4:=by omega
  have hmap:(((ws.map sb).length:Nat):Int)=(ws.length:Int):=by rw [dt]
  rcases hR with rfl|rfl|rfl|rfl
  ·rw [lq1 hg];rcases yD (p:=p) (R:=1) hlen with⟨h,hv⟩|⟨a,b,c,d,e,h,h1,h2,h3,h4,h5⟩
   ·rw [h];by_cases hl2:ws.length=2
    ·rw [cj hl2];have:gV ws 1 1=none:=by
      rcases hv with hv|hv|hv|hv|hv;·exact hv
      ·rw [eB (by omega)]at hv;cases hv
      ·rw [eB (by omega)]at hv;cases hv
      ·rw [eB (by omega)]at hv;cases hv
      ·rw [eB (by omega)]at hv;cases hv
     rw [this];rfl
    ·rw [ci hl2];rfl
   ·rw [h];show(bif !decide ((((ws.map sb).length:Nat):Int)=2)then some (p,0)else some ((⟨a,p.aa,p.ac,p.am⟩:ah),(1:Int)))=_;rw [hmap];by_cases hl2:ws.length=2
    ·rw [bz (by omega),cj hl2,h1];rfl
    ·rw [b_ (by omega),ci hl2];rfl
  ·rw [lq2 hg];rcases yD (p:=p) (R:=2) hlen with⟨h,hv⟩|⟨a,b,c,d,e,h,h1,h2,h3,h4,h5⟩
   ·rw [h];by_cases hl2:ws.length=6
    ·rw [cj hl2];revert hv;cases gV ws 2 1<;>cases gV ws 2 2<;>cases gV ws 2 3<;>cases gV ws 2 4<;>cases gV ws 2 5<;>first|(intro _;rfl)|(intro hv;simp at hv)
    ·rw [ci hl2];rfl
   ·rw [h];show(bif !decide ((((ws.map sb).length:Nat):Int)=6)then some (p,0)else bA _ (some ((⟨p.ae,p.aa++[⟨a,b,c,d,e⟩],p.ac,p.am⟩:ah),(2:Int))))=_;rw [hmap];by_cases hl2:ws.length=6
    ·rw [bz (by omega),cj hl2,h1,h2,h3,h4,h5,cE,bv,aB (by simp only [cx];omega)];rfl
    ·rw [b_ (by omega),ci hl2];rfl
  ·rw [lq3 hg];rcases yD (p:=p) (R:=3) hlen with⟨h,hv⟩|⟨a,b,c,d,e,h,h1,h2,h3,h4,h5⟩
   ·rw [h];by_cases hl2:6<=ws.length
    ·rw [cj hl2];revert hv;cases gV ws 3 1<;>cases gV ws 3 2<;>cases gV ws 3 3<;>cases gV ws 3 4<;>cases gV ws 3 5<;>first|(intro _;rfl)|(intro hv;simp at hv)
    ·rw [ci hl2];rfl
   ·rw [h];have htr:=SS (ws.drop 6) (fun w hw2=>by have:=hw w (List.mem_of_mem_drop hw2);omega) (by rw [ea];omega);rw [<-List.map_drop,htr];show(bif decide ((((ws.map sb).length:Nat):Int)<6)then some (p,(0:Int))else(bA _ (bif !(match jV (ws.drop 6)with|some x=>(x,true)|none=>([],false):List aQ × Bool).2 then some (p,(0:Int))else bA _ (some ((⟨p.ae,p.aa,p.ac++[⟨a,b,c,d,e,(match jV (ws.drop 6)with|some x=>(x,true)|none=>([],false):List aQ × Bool).1⟩],p.am⟩:ah),(3:Int))))))=_;rw [hmap];by_cases hl2:6<=ws.length
    ·rw [b_ (by omega),cj hl2,bv,aB (by omega),h1,h2,h3,h4,h5];cases jV (ws.drop 6)with
     |none=>rfl
     |some l=>
      show bA _ _=_;rw [aB (by simp only [cx];omega)];rfl
    ·rw [bz (by omega),ci hl2];rfl
  ·rw [lq4 hg];rcases yD (p:=p) (R:=4) hlen with⟨h,hv⟩|⟨a,b,c,d,e,h,h1,h2,h3,h4,h5⟩
   ·rw [h];by_cases hl2:ws.length=5
    ·rw [cj hl2];rw [eB (i:=5) (by omega)]at hv;revert hv;cases gV ws 4 1<;>cases gV ws 4 2<;>cases gV ws 4 3<;>cases gV ws 4 4<;>first|(intro _;rfl)|(intro hv;simp at hv)
    ·rw [ci hl2];rfl
   ·rw [h];show(bif !decide ((((ws.map sb).length:Nat):Int)=5)then some (p,0)else bA _ (some ((⟨p.ae,p.aa,p.ac,p.am++[⟨⟨a,b⟩,c,d⟩]⟩:ah),(4:Int))))=_;rw [hmap];by_cases hl2:ws.length=5
    ·rw [bz (by omega),cj hl2,h1,h2,h3,h4,cE,bv,aB (by simp only [cx];omega)];rfl
    ·rw [b_ (by omega),ci hl2];rfl
 ·rw [b_ hg,cF,bu];have:rX R rank ws p=none:=by unfold rX;rw [ci hg]
  rw [this];rfl
theorem Pk {T:List UInt8} (hT:T.length<=1000000) {i:Nat} (hi:i<T.length):eD (sb T) (i:Int)=some (if at' T i=10 then .done (.brk (i:Int))else .next ((i+1:Nat):Int)):=by
 unfold eD;rw [aW,bz (by omega),aB (fun _=>by omega),bx,rG hi,wr (by omega),bu];by_cases h:at' T i=10;·rw [h,cj rfl];rfl
 ·have hbn: ¬ (((at' T i).toNat:Int)=10):=fun e=>h (UInt8.toNat.inj (by show(at' T i).toNat=10;omega));rw [b_ hbn,ci h];rfl
theorem XK (T:List UInt8):eD (sb T) (T.length:Int)=some (.done (.brk (T.length:Int))):=by
 unfold eD;rw [aW,b_ (by omega),aB (fun h=>by simp [gB]at h)];rfl
theorem Nc {T:List UInt8} (hT:T.length<=1000000) {j:Nat} (hj:j<=T.length) (he:j<T.length->at' T j=10): ∀(k i n:Nat),i+k=j->(∀t,i<=t->t<j->at' T t≠10)->k<n->aH (eD (sb T)) n (i:Int)=some (.brk (j:Int))
 |0,i,n,h,_,hn=>by
  obtain⟨n,rfl⟩: ∃m,n=m+1:=⟨n - 1,by omega⟩;obtain rfl:i=j:=by omega
  rcases Nat.lt_or_ge i T.length with h1|h1;·rw [ai,Pk hT h1,cj (he h1)]
  ·obtain rfl:i=T.length:=by omega
   rw [ai,XK]
 |k+1,i,n,h,hm,hn=>by
  obtain⟨n,rfl⟩: ∃m,n=m+1:=⟨n - 1,by omega⟩;rw [ai,Pk hT (by omega),ci (hm i (by omega) (by omega))];exact Nc hT hj he k (i+1) n (by omega) (fun t h1 h2=>hm t (by omega) h2) (by omega)
theorem drop_at {T t:List UInt8} {f i:Nat} (h:T.drop f=t) (hi:i<t.length):f+i<T.length/\at' T (f+i)=at' t i:=by
 have hl:=congrArg List.length h;rw [ea]at hl;refine⟨by omega, ?_⟩;subst h;rw [fM (by omega),fM hi,List.getElem_drop]
theorem RP {T s t:List UInt8} (hT:T.length<=1000000) {f:Nat} (h:T.drop f=s++10::t) (hs:10 ∉ s):aH (eD (sb T)) FUEL (f:Int)=some (.brk ((f+s.length:Nat):Int))/\f+s.length<T.length:=by
 obtain⟨h1,h2⟩:=drop_at h (i:=s.length) (by simp);refine⟨Nc hT (by omega) (fun _=> ?_) s.length f FUEL rfl (fun t ht1 ht2=> ?_) (by unfold FUEL;omega),h1⟩;·rw [h2,fM (by simp)];simp
 ·obtain⟨i,rfl⟩: ∃i,t=f+i:=⟨t - f,by omega⟩;obtain⟨_,h3⟩:=drop_at h (i:=i) (by simp;omega);rw [h3,fM (by simp;omega),List.getElem_append_left (by omega)];exact fun e=>hs (e ▸ List.getElem_mem _)
theorem Vl {T t:List UInt8} (hT:T.length<=1000000) {f:Nat} (h:T.drop f=t) (h0:t≠[]) (hs:10 ∉ t):aH (eD (sb T)) FUEL (f:Int)=some (.brk (T.length:Int)):=by
 have hl:=congrArg List.length h;rw [ea]at hl;have:=List.length_pos_iff.2 h0;refine Nc hT (cz _) (fun h=>by omega) t.length f FUEL (by omega) (fun u hu1 hu2=> ?_) (by unfold FUEL;omega);obtain⟨i,rfl⟩: ∃i,u=f+i:=⟨u - f,by omega⟩;obtain⟨_,h3⟩:=drop_at h (i:=i) (by omega);rw [h3];exact fun e=>hs (e ▸ at_mem (by omega))
theorem QG {r r':Int} {ws:List (List UInt8)} {p q:ah} (h:zq r ws p=some (r',q)):1<=r':=by
 rcases IA h with⟨rfl,_⟩|⟨rfl,_⟩|⟨rfl,_⟩|⟨rfl,_⟩<;>omega
theorem Lines.le {t:List UInt8} {p e:ah} {n m r:Int} {ok:Bool} (h:Lines t p n r ok e m):n<=m:=by
 induction h with
 |nil=>omega
 |bad=>omega
 |stop=>omega
 |step h hl ht ih=>omega
theorem Lines.ref {T:List UInt8} (hT:T.length<=131072) {t:List UInt8} {p e:ah} {n m r:Int} {ok:Bool} (h:Lines t p n r ok e m): ∀(f k:Nat),T.drop f=t->f<=T.length->t.length<k->QU p t->0<=n->0<=r->n+t.length<=1000000->
  aH (di (sb T)) k (p.ae,p.aa,p.ac,p.am,n,r,(f:Int))=some (bif ok then .brk (e.ae,e.aa,e.ac,e.am,m)else .ret (E1,m,3)):=by
 induction h with
 |nil p n r=>
  intro f k hd hf hk _ _ _ _;obtain⟨k,rfl⟩: ∃m,k=m+1:=⟨k - 1,by omega⟩;have hl:=congrArg List.length hd;rw [ea]at hl;simp only [List.length_nil]at hl;have hb:di (sb T) (p.ae,p.aa,p.ac,p.am,n,r,(f:Int))=some (.done (.brk (p.ae,p.aa,p.ac,p.am,n))):=by
   unfold di;dsimp only;rw [aW,b_ (by omega)];rfl
  rw [ai,hb];rfl
 |bad h0 h p n r=>
  rename_i t;intro f k hd hf hk hr _ _ _;obtain⟨k,rfl⟩: ∃m,k=m+1:=⟨k - 1,by omega⟩;have hl:=congrArg List.length hd;rw [ea]at hl;have:=List.length_pos_iff.2 h0;have hb:di (sb T) (p.ae,p.aa,p.ac,p.am,n,r,(f:Int))=some (.done (.ret (E1,n,3))):=by
   unfold di;dsimp only;rw [aW,bz (by omega),bu,Vl (by omega) hd h0 h];show(bif decide ((T.length:Int)<(T.length:Int))then _ else _)=_;rw [b_ (by omega),bv,bz rfl];rfl
  rw [ai,hb];rfl
 |stop h hl=>
  rename_i s t p n r;intro f k hd hf hk hr _ hr0 _;obtain⟨k,rfl⟩: ∃m,k=m+1:=⟨k - 1,by omega⟩;obtain⟨h1,h2⟩:=RP (by omega) hd h;have hr1:=hr.s;have hsl:s.length<=200000:=by simp at hr1;omega
  have hsub:jh (sb T) f (f+s.length)=sb s:=by rw [sJ,List.drop_take,hd];simp
  have hb:di (sb T) (p.ae,p.aa,p.ac,p.am,n,r,(f:Int))=some (.done (.ret (E1,n,3))):=by
   unfold di;dsimp only;rw [aW,bz (by omega),bu,h1];dsimp only [Option.bind_some];rw [bz (by omega),bu,bx,bx,hsub];rw [show(iO ⟨p.ae,p.aa,p.ac,p.am⟩ r (sb s))=some (p,0) by rw [Fv hr0 hsl hr.rm,hl];rfl,bt,aB (by omega)];rw [b_ (by omega),bv,bz rfl];rfl
  rw [ai,hb];rfl
 |step h hl ht ih=>
  rename_i s t p q e n m r r' ok;intro f k hd hf hk hr hn hr0 hm;obtain⟨k,rfl⟩: ∃m,k=m+1:=⟨k - 1,by omega⟩;obtain⟨h1,h2⟩:=RP (by omega) hd h;have hr1:=hr.s;have hsl:s.length<=200000:=by simp at hr1;omega
  have hsub:jh (sb T) f (f+s.length)=sb s:=by rw [sJ,List.drop_take,hd];simp
  have hr'1:=QG hl;simp only [cd,cY]at hk hm;have hb:di (sb T) (p.ae,p.aa,p.ac,p.am,n,r,(f:Int))=some (.next (q.ae,q.aa,q.ac,q.am,n+1,r',((f+s.length+1:Nat):Int))):=by
   unfold di;dsimp only;rw [aW,bz (by omega),bu,h1];dsimp only [Option.bind_some];rw [bz (by omega),bu,bx,bx,hsub];rw [show(iO ⟨p.ae,p.aa,p.ac,p.am⟩ r (sb s))=some (q,r') by rw [Fv hr0 hsl hr.rm,hl];rfl,bt,aB (by omega)];rw [b_ (by omega),bv,b_ (by show ¬ r'=0;omega),bv,wr (by omega),wr (by omega)];rfl
  rw [ai,hb];refine ih (f+s.length+1) k ?_ (by omega) (by omega) (hr.step hl) (by omega) (by omega) (by omega);rw [show f+s.length+1=f+(s.length+1) by omega,<-List.drop_drop,hd];simp
theorem Lx {t:List UInt8} (ht:t.length<=131072) {ok:Bool} {e:ah} {n:Int} (h:Lines t E1 0 0 ok e n):mg (sb t)=some (wY ok e n):=by
 have hr:QU E1 t:=⟨by show 0+_<=_;omega,by show 0+_<=_;omega,by show 0+_<=_;omega,fun x hx=>by cases hx⟩;have hrun:=h.ref ht 0 FUEL rfl (by omega) (by unfold FUEL;omega) hr (by omega) (by omega) (by omega);have he:=h.rn hr;have hn:=h.le;unfold mg;rw [aW,b_ (by omega),bv];show(aH (di (sb t)) FUEL (E1.ae,E1.aa,E1.ac,E1.am,0,0,((0:Nat):Int))).bind _=_;rw [hrun];unfold wY;cases ok with
 |false=>rfl
 |true=>
  show(bif decide (n=0)then some (E1,0,3)else(gM e).bind fun r_1=>bif (!decide (r_1=0))then some (E1,n,r_1)else some (e,0,0))=_;by_cases h0:n=0;·subst h0;rw [bz rfl,ci (fun h=>by omega)];rfl
  ·have hsm:Small e:=⟨by have:=he.s;omega,by have:=he.l;omega,by have:=he.r;omega,fun x hx=>by have:=he.x x hx;omega⟩;rw [b_ h0,bv,nk e hsm,bt,cj ⟨rfl,by omega⟩];by_cases hc:fZ e=0
   ·rw [bz hc,cj hc];rfl
   ·rw [b_ hc,ci hc];rfl
theorem Ph {a b c:List UInt8} {k:Int} (hk:1<=k/\k<=3):at' [sb [],sb a,sb b,sb c] k.toNat=sb (p8 a b c k):=by
 have:k=1\/k=2\/k=3:=by omega
 rcases this with rfl|rfl|rfl<;>rfl
theorem Dz {α:Type} [Inhabited α] (f:α->List (List UInt8)) {l:List α} {i:Nat} (hi:i<l.length):jZ f (l.take (i+1))=jZ f (l.take i)++pR (f (at' l i)):=by
 rw [d9 hi,uw,jZ,jZ,cW]
theorem JJ {α:Type} (f:α->List (List UInt8)) (l:List α) (i:Nat):(jZ f (l.take i)).length<=(jZ f l).length:=by
 have:=congrArg List.length (uw f (l.take i) (l.drop i));rw [ek,cd]at this;omega
section
variable {p:ah} (hp:VP p)
include hp
theorem XL {hd:List UInt8} (hh:hd.length<=100000):aH (jb p) FUEL (sb hd,0)=some (.brk (sb (hd++jZ vS p.aa))):=by
 have hsl:=hp.sl;have htot:=tY hp;simp only [vN,cd]at htot;have key:=eY (N:=FUEL) (body:=jb p) (fun t=>(sb (hd++jZ vS (p.aa.take t)),(t:Int))) p.aa.length (.brk (sb (hd++jZ vS p.aa))) (fuel_lt (by omega)) (fun t ht=> ?_) ?_;·rw [<-key];simp [jZ]
 ·have hx:=hp.src t ht;have hb:=hp.b;obtain⟨h1,h2,h3,h4,h5⟩:=hx;have l0:=JJ vS p.aa t;have l1:=fC (v:=(at' p.aa t).bus) (by omega);have l2:=Cc (a:=rR) (b:=BJ) (c:=Bu) (by decide) (by decide) (by decide) (at' p.aa t).kind;have l3:=fC (v:=(at' p.aa t).power) (by omega);have l4:=fC (v:=(at' p.aa t).br) (by omega);have l5:=fC (v:=(at' p.aa t).ohm) (by omega);unfold jb;dsimp only;rw [bz (by omega),bu,aB (by omega),bx,dN (v:=(at' p.aa t).bus) (by omega),bt,Qc,bt,dN (v:=(at' p.aa t).power) (by omega),bt,dN (v:=(at' p.aa t).br) (by omega),bt,dN (v:=(at' p.aa t).ohm) (by omega),bt,Ph h2,Dz vS ht];simp only [pY,jD,aW,cd,cY,List.length_nil];rw [aB (by omega),wr (by omega)];simp [pR,vS,joinL,jC]
 ·unfold jb;dsimp only;rw [b_ (by omega),bv,ec]
def ou:List aQ->List UInt8
 |[]=>[]
 |t::l=>32::Ma t++ou l
omit hp in
theorem Dv: ∀a b:List aQ,ou (a++b)=ou a++ou b
 |[],b=>rfl
 |t::a,b=>by rw [d8,ou,ou,Dv a b,cR]
omit hp in
theorem FI (w:List UInt8): ∀l:List aQ,joinL 32 (w::l.map Ma)=w++ou l
 |[]=>by simp [joinL,ou]
 |t::l=>by
  rw [cM,joinL,FI (Ma t) l,ou];simp
theorem K5 {i g:Nat} (hi:i<p.ac.length) (hg:g<(at' p.ac i).trip.length):(-999999999<=(at' (at' p.ac i).trip g).bp/\(at' (at' p.ac i).trip g).bp<=999999999)/\ -999999999<=(at' (at' p.ac i).trip g).bi/\(at' (at' p.ac i).trip g).bi<=999999999:=by
 have hb:=Am hg ((hp.lnk i hi).trip g hg);omega
theorem Gq {i:Nat} (hi:i<p.ac.length): ∀g,g<=(at' p.ac i).trip.length->(ou ((at' p.ac i).trip.take g)).length<=30*g
 |0,_=>by simp [ou]
 |g+1,h=>by
  have ih:=Gq hi g (by omega);have hb:=K5 hp hi (g:=g) (by omega);have l1:=fC hb.1;have l2:=fC hb.2;rw [d9 (by omega),Dv,cd];simp only [ou,Ma,cd,cY,List.length_nil];omega
theorem Xw {i:Nat} (hi:i<p.ac.length) {hd:List UInt8} (hh:hd.length<=200000):aH (iQ p (i:Int)) FUEL (sb hd,0)=some (.brk (sb (hd++ou (at' p.ac i).trip))):=by
 have htl:=(hp.lnk i hi).tl;have key:=eY (N:=FUEL) (body:=iQ p (i:Int)) (fun t=>(sb (hd++ou ((at' p.ac i).trip.take t)),(t:Int))) (at' p.ac i).trip.length (.brk (sb (hd++ou (at' p.ac i).trip))) (fuel_lt (by omega)) (fun t ht=> ?_) ?_;·rw [<-key];simp [ou]
 ·have hb:=K5 hp hi ht;have l0:=Gq hp hi t (by omega);have l1:=fC hb.1;have l2:=fC hb.2;unfold iQ;dsimp only;rw [bx,bz (by omega),bu,bx,dN (by omega),bt,dN (by omega),bt,d9 ht,Dv];simp only [pY,jD,aW,cd,cY,List.length_nil];rw [aB (by omega),wr (by omega)];simp [ou,Ma]
 ·unfold iQ;dsimp only;rw [bx,b_ (by omega),bv,ec]
theorem WX {hd:List UInt8} (hh:hd.length<=100000):aH (iZ p) FUEL (sb hd,0)=some (.brk (sb (hd++jZ rT p.ac))):=by
 have hsl:=hp.ll;have htot:=tY hp;simp only [vN,cd]at htot;have key:=eY (N:=FUEL) (body:=iZ p) (fun t=>(sb (hd++jZ rT (p.ac.take t)),(t:Int))) p.ac.length (.brk (sb (hd++jZ rT p.ac))) (fuel_lt (by omega)) (fun t ht=> ?_) ?_;·rw [<-key];simp [jZ]
 ·have hx:=hp.lnk t ht;have hb:=hp.b;have l6:=Gq hp ht _ (cz _);rw [ec]at l6;have hL2:=fun(h:List UInt8) (hh:h.length<=200000)=>Xw hp ht hh;obtain⟨h1,h2,_,h3,h4,h5,h6,_⟩:=hx;have l0:=JJ rT p.ac t;have l1:=fC (v:=(at' p.ac t).a) (by omega);have l2:=fC (v:=(at' p.ac t).b) (by omega);have l3:=Cc (a:=yQ) (b:=yT) (c:=yX) (by decide) (by decide) (by decide) (at' p.ac t).kind;have l4:=fC (v:=(at' p.ac t).most) (by omega);have l5:=fC (v:=(at' p.ac t).ohm) (by omega);unfold iZ;dsimp only;rw [bz (by omega),bu,aB (by omega),bx,dN (v:=(at' p.ac t).a) (by omega),bt,dN (v:=(at' p.ac t).b) (by omega),bt,Pz,bt,dN (v:=(at' p.ac t).most) (by omega),bt,dN (v:=(at' p.ac t).ohm) (by omega),bt,Ph h3,Dz rT ht];simp only [pY,jD,aW,cd,cY,List.length_nil];rw [aB (by omega),hL2 _ (by simp only [cd,cY,List.length_nil];omega),bt];dsimp only;simp only [jD,aW,cd,cY,List.length_nil];rw [aB (by omega),wr (by omega)];have e:pR (rT (at' p.ac t))=pV++32::(Lib.itoa (at' p.ac t).a++32::(Lib.itoa (at' p.ac t).b++32::(p8 yQ yT yX (at' p.ac t).kind++32::(Lib.itoa (at' p.ac t).most++32::(Lib.itoa (at' p.ac t).ohm++ou (at' p.ac t).trip)))))++[10]:=by
   unfold pR rT;rw [joinL,joinL,joinL,joinL,joinL,FI]
  rw [e];simp [pV]
 ·unfold iZ;dsimp only;rw [b_ (by omega),bv,ec]
theorem W9 {hd:List UInt8} (hh:hd.length<=100000):aH (iX p) FUEL (sb hd,0)=some (.brk (sb (hd++jZ wh p.am))):=by
 have hsl:=hp.rl;have htot:=tY hp;simp only [vN,cd]at htot;have key:=eY (N:=FUEL) (body:=iX p) (fun t=>(sb (hd++jZ wh (p.am.take t)),(t:Int))) p.am.length (.brk (sb (hd++jZ wh p.am))) (fuel_lt (by omega)) (fun t ht=> ?_) ?_;·rw [<-key];simp [jZ]
 ·have hx:=hp.rck t ht;have hb:=hp.b;obtain⟨h1,h2,_,h3,h4⟩:=hx;have h5:jF (at' p.am t)<=2:=by unfold jF;split<;>omega
  have l0:=JJ wh p.am t;have l1:=fC (v:=(at' p.am t).bh.e0) (by omega);have l2:=fC (v:=(at' p.am t).bh.e1) (by omega);have l3:=fC (v:=(at' p.am t).power) (by omega);have l4:=fC (v:=(at' p.am t).bk) (by omega);unfold iX;dsimp only;rw [bz (by omega),bu,aB (by omega),bx,dN (v:=(at' p.am t).bh.e0) (by omega),bt,dN (v:=(at' p.am t).bh.e1) (by omega),bt,dN (v:=(at' p.am t).power) (by omega),bt,dN (v:=(at' p.am t).bk) (by omega),bt,Dz wh ht];simp only [pY,jD,aW,cd,cY,List.length_nil];rw [aB (by omega),wr (by omega)];simp [pR,wh,joinL,qb]
 ·unfold iX;dsimp only;rw [b_ (by omega),bv,ec]
theorem Ky:iw p=some (sb (vN p),0):=by
 have hb:=hp.b;have htot:=tY hp;simp only [vN,cd]at htot;have l1:=fC (v:=p.ae) (by omega);unfold iw;rw [nk p hp.small,bt,fq.mpr hp,bz rfl,cE,bv,dN (by omega),bt];simp only [pY,jD,aW,cd,cY,List.length_nil];rw [aB (by omega),XL hp (by simp only [cd,cY,List.length_nil];omega),bt];dsimp only;rw [WX hp (by simp only [cd,cY,List.length_nil];omega),bt];dsimp only;rw [W9 hp (by simp only [cd,cY,List.length_nil];omega),bt];dsimp only;simp [vN,pR,joinL,jg]
end
theorem Hw {p:ah} (hs:Small p) (h: ¬ VP p):iw p=some (⟨#[]⟩,fZ p):=by
 unfold iw;rw [nk p hs,bt,b_ (fun e=>h (fq.mp e))];rfl
def tF (w:List UInt8) (l:List Bool):List UInt8:=w++32::(l.map yt++[10])
theorem xA (w:List UInt8) (l:List Bool):(tF w l).length=w.length+1+l.length+1:=by
 simp [tF];omega
theorem bZ {w:List UInt8} {a b:List Bool} {r q:List UInt8} (h:tF w a++r=tF w b++q) (hl:a.length=b.length):a=b/\r=q:=by
 obtain⟨h1,h2⟩:=List.append_inj h (by rw [xA,xA,hl]);refine⟨?_,h2⟩;unfold tF at h1;have h3:=(List.cons.inj (eR h1)).2;have h4:=List.append_cancel_right h3;have hb: ∀x y,yt x=yt y->x=y:=by decide
 exact(List.map_inj_right fun x y e=>hb x y e).1 h4
theorem zL {w:List UInt8} {l:List Bool} (hw:w.length<=1000) (hl:l.length<=1000000):gL (sb w) l=some (sb (tF w l)):=by
 have key:=eY (N:=FUEL) (body:=nR l) (fun t=>(sb (w++32::(l.take t).map yt),(t:Int))) l.length (.brk (sb (w++32::l.map yt))) (fuel_lt (by omega)) (fun t ht=> ?_) ?_
 ·unfold gL;simp only [pY,jD,aW,cY,List.length_nil];rw [aB (by omega)];refine oC key ?_;dsimp only;rw [jD,aW,aB (by simp only [cd,cY,dt];omega)];simp [tF]
 ·unfold nR;dsimp only;rw [bz (by omega),bu,aB (by omega),bx,d9 ht];have hz:(sb (w++32::(l.take t).map yt)).size<=2000000:=by
   rw [aW];simp only [cd,cY,dt,d_];omega
  cases at' l t with
  |true=>
   rw [bu,aB (by rw [pY,aW [49],cx];omega),pY,jD,wr (by omega)];simp [yt]
  |false=>
   rw [bv,aB (by rw [pY,aW [48],cx];omega),pY,jD,wr (by omega)];simp [yt]
 ·unfold nR;dsimp only;rw [b_ (by omega),bv,ec]
def KG (s:State) (r:List UInt8):List UInt8:=tF (fU 0) s.on_++(tF (fU 1) s.ag++(tF (fU 2) s.a_++(tF (fU 3) s.ba++(tF (fU 4) s.aq++(tF (fU 5) s.aw++(tF (fU 6) s.ap++r))))))
theorem JR (s:State):nC (M8 s)=sb (KG s []):=by
 unfold nC;rw [ve];show sb (([jr 0 s.on_,jr 1 s.ag,jr 2 s.a_,jr 3 s.ba,jr 4 s.aq,jr 5 s.aw,jr 6 s.ap].map (· ++[10])).flatten)=_;congr 1
theorem Nh {p:ah} (hs:Small p) (s:State):nE p s=gJ p s:=by
 unfold nE gJ;rw [CQ p s hs,o8 p s hs,bt,bt];by_cases h0:ol p s=0
 ·obtain⟨hv,hvs⟩:=jR.mp h0;have h1:=hv.ll;have h2:=hv.sl;have h3:=hv.b;have k1:=hvs.a_;have k2:=hvs.ba;have k3:=hvs.aq;have k4:=hvs.on;have k5:=hvs.ag;have k6:=hvs.aw;have k7:=hvs.ap;rw [h0,bz rfl,cE,bv,bv,J7 hv hvs,JR];refine oC (zL (w:=fU 0) (l:=s.on_) (by decide) (by omega)) ?_;refine oC (zL (w:=fU 1) (l:=s.ag) (by decide) (by omega)) ?_;refine oC (zL (w:=fU 2) (l:=s.a_) (by decide) (by omega)) ?_;refine oC (zL (w:=fU 3) (l:=s.ba) (by decide) (by omega)) ?_;refine oC (zL (w:=fU 4) (l:=s.aq) (by decide) (by omega)) ?_;refine oC (zL (w:=fU 5) (l:=s.aw) (by decide) (by omega)) ?_;refine oC (zL (w:=fU 6) (l:=s.ap) (by decide) (by omega)) ?_;have w0:(fU 0).length=2:=rfl;have w1:(fU 1).length=9:=rfl;have w2:(fU 2).length=6:=rfl;have w3:(fU 3).length=6:=rfl;have w4:(fU 4).length=7:=rfl;have w5:(fU 5).length=7:=rfl;have w6:(fU 6).length=6:=rfl;simp only [jD,aW,cd,xA];rw [aB (by omega)];simp [KG]
 ·rw [b_ h0];rfl
def zB:List UInt8->Option (List Bool)
 |[]=>some []
 |b::l=>if b=48\/b=49 then(zB l).map (decide (b=49):: ·)else none
theorem IX: ∀l:List Bool,zB (l.map yt)=some l
 |[]=>rfl
 |b::l=>by
  rw [cM,zB,IX l];cases b<;>rfl
theorem IW: ∀{c:List UInt8} {l:List Bool},zB c=some l->c=l.map yt
 |[],l,h=>by cases h;rfl
 |b::c,l,h=>by
  rw [zB]at h;by_cases hb:b=48\/b=49
  ·rw [cj hb]at h;cases hc:zB c with
   |none=>rw [hc]at h;cases h
   |some m=>
    rw [hc]at h;cases h;rw [cM,<-IW hc];rcases hb with rfl|rfl<;>rfl
  ·rw [ci hb]at h;cases h
section
variable {t w:List UInt8} {N:Nat} (ht:t.length<=1000000) (hw:w.length<=100) (hN:N<=1000)
include ht hw hN
theorem TY (hT:w.length+1+N<=t.length) {j:Nat} (hj:j<N) {acc:List Bool} (ha:acc.length<=1000):jJ (sb t) (sb w) (N:Int) (acc,((w.length+1+j:Nat):Int))=
  some (if at' t (w.length+1+j)=48\/at' t (w.length+1+j)=49 then .next (acc++[decide (at' t (w.length+1+j)=49)],((w.length+1+(j+1):Nat):Int))else .done (.ret ([],sb [],false))):=by
 unfold jJ;dsimp only;have e49: ∀b:UInt8,((b.toNat:Int)=49)↔b=49:=fun b=> ⟨fun e=>UInt8.toNat.inj (by show b.toNat=49;omega),fun e=>by subst e;rfl⟩;have e48: ∀b:UInt8,((b.toNat:Int)=48)↔b=48:=fun b=> ⟨fun e=>UInt8.toNat.inj (by show b.toNat=48;omega),fun e=>by subst e;rfl⟩;rw [aW,aW,wr (x:=(w.length:Int)+1) (by omega),wr (x:=(w.length:Int)+1+(N:Int)) (by omega),bz (by omega),bu,bx,rG (by omega),aB ⟨by omega,fun _=>by omega⟩];simp only [e48,e49];by_cases h8:at' t (w.length+1+j)=48
 ·rw [cj (.inl h8),bz h8,cE,bv,bv,aB ⟨by omega,by simp only [cx];omega⟩,wr (by omega)];rfl
 ·rw [b_ h8,cF,bu];by_cases h9:at' t (w.length+1+j)=49
  ·rw [cj (.inr h9),bz h9,cE,bv,aB ⟨by omega,by simp only [cx];omega⟩,wr (by omega)];rfl
  ·rw [ci (fun h=>h.elim h8 h9),b_ h9];rfl
theorem La (hT:w.length+1+N<=t.length): ∀(c:List UInt8) (j n:Nat) (acc:List Bool),(∀k,k<c.length->at' t (w.length+1+(j+k))=at' c k)->j+c.length=N->c.length<n->acc.length<=j->
  aH (jJ (sb t) (sb w) (N:Int)) n (acc,((w.length+1+j:Nat):Int))=some (match zB c with|some l=> .brk (acc++l)|none=> .ret ([],sb [],false))
 |[],j,n,acc,_,hj,hn,_=>by
  obtain⟨n,rfl⟩: ∃m,n=m+1:=⟨n - 1,by omega⟩;have hb:jJ (sb t) (sb w) (N:Int) (acc,((w.length+1+j:Nat):Int))=some (.done (.brk acc)):=by
   unfold jJ;dsimp only;simp only [List.length_nil]at hj;rw [aW,wr (x:=(w.length:Int)+1) (by omega),wr (x:=(w.length:Int)+1+(N:Int)) (by omega),b_ (by omega)];rfl
  rw [ai,hb];show some _=some (Ex.brk (acc++[]));rw [cW]
 |b::c,j,n,acc,h,hj,hn,ha=>by
  obtain⟨n,rfl⟩: ∃m,n=m+1:=⟨n - 1,by omega⟩;have h0:at' t (w.length+1+j)=b:=h 0 (by simp);simp only [cY]at hj hn;rw [ai,TY ht hw hN hT (by omega) (by omega),h0,zB];by_cases hb:b=48\/b=49
  ·rw [cj hb,cj hb];refine(La hT c (j+1) n _ (fun k hk=> ?_) (by omega) (by omega) (by simp only [cd,cx];omega)).trans ?_
   ·have:=h (k+1) (by simp only [cY];omega);rw [show j+1+k=j+(k+1) by omega,this];rfl
   ·cases zB c with
    |none=>rfl
    |some l=>simp
  ·rw [ci hb,ci hb]
theorem zI:(∃bs r,bs.length=N/\t=tF w bs++r/\fw (sb t) (sb w) (N:Int)=some (bs,sb r,true))\/(fw (sb t) (sb w) (N:Int)=some ([],sb [],false)/\ ∀bs r,bs.length=N->t≠tF w bs++r):=by
 have e1:IntKind.wrap .i64 ((((sb w).size:Nat):Int)+1)=((w.length+1:Nat):Int):=by rw [aW];exact wr (by omega)
 have e2:IntKind.wrap .i64 (((w.length+1:Nat):Int)+(N:Int))=((w.length+1+N:Nat):Int):=(wr (by omega)).trans (by omega);have e3:IntKind.wrap .i64 (((w.length+1+N:Nat):Int)+1)=((w.length+1+N+1:Nat):Int):=(wr (by omega)).trans (by omega);unfold fw;rw [e1,e2,e3,aW t,bx,bx,bx];by_cases hl:t.length<w.length+1+N+1
 ·right;refine⟨?_,fun bs r hb e=> ?_⟩
  ·rw [bz (by omega),aB (by refine⟨fun h=> ?_,fun h=> ?_,fun h=> ?_⟩<;>exact(Bool.false_ne_true h).elim)];rfl
  ·have:=congrArg List.length e;rw [cd,xA]at this;omega
 ·rw [b_ (by omega),pY [32],jD,sJ,List.drop_zero,vo];rw [aB ⟨fun _=>by omega,fun _=>by rw [aW,aW,cx];omega,fun _=>by omega⟩,bv];by_cases h2:t.take (w.length+1)=w++[32]
  ·rw [bz h2,cE,bv,rG (by omega)];obtain⟨u,rfl⟩: ∃u,t=w++32::u:=⟨t.drop (w.length+1),by conv=>lhs;rw [<-ek (w.length+1) t,h2];simp⟩;simp only [cd,cY]at hl ht;have hat: ∀k,k<u.length->at' (w++32::u) (w.length+1+k)=at' u k:=fun k hk=>by
    rw [fM (by simp only [cd,cY];omega),fM hk,List.getElem_append_right (by omega)];simp only [show w.length+1+k - w.length=k+1 by omega,List.getElem_cons_succ]
   rw [hat N (by omega)];by_cases h3:at' u N=10
   ·have hu:u=u.take N++10::u.drop (N+1):=by
     conv=>lhs;rw [<-ek N u,eQ (by omega)]
     rw [fM (by omega)]at h3;rw [h3]
    have hrun:=La (t:=w++32::u) (by simp only [cd,cY];omega) hw hN (by simp only [cd,cY];omega) (u.take N) 0 FUEL [] (fun k hk=>by
     rw [d_]at hk;rw [cD,hat k (by omega),fM (by omega),fM (by rw [d_];omega),List.getElem_take]) (by rw [d_];omega) (by rw [d_];unfold FUEL;omega) (by simp)
    rw [h3,bz (by rfl),cE,bv,show(w.length+1)=w.length+1+0 from rfl,hrun];cases hb:zB (u.take N)with
    |none=>
     right;refine⟨rfl,fun bs r hbl e=> ?_⟩;have e':u=bs.map yt++10::r:=by
      have:=eR ((show w++32::u=w++(32::(bs.map yt++10::r)) by rw [e];simp [tF]));exact(List.cons.inj this).2
     have:u.take N=bs.map yt:=by rw [e',eS (by simp;omega),List.take_of_length_le (by simp;omega)]
     rw [this,IX]at hb;cases hb
    |some bs=>
     left;have hbi:=IW hb;have hbl:bs.length=N:=by have:=congrArg List.length hbi;rw [d_,dt]at this;omega
     refine⟨bs,u.drop (N+1),hbl, ?_, ?_⟩
     ·conv=>lhs;rw [hu,hbi]
      simp [tF]
     ·dsimp only [Option.bind_some,List.nil_append];rw [aB (by simp only [cd,cY];omega),sJ,ec];have:(w++32::u).drop (w.length+1+0+N+1)=u.drop (N+1):=by
       rw [show w.length+1+0+N+1=w.length+(N+1+1) by omega,eW];simp
      rw [this]
   ·right;have hbn: ¬ (((at' u N).toNat:Int)=10):=fun e=>h3 (UInt8.toNat.inj (by show(at' u N).toNat=10;omega));rw [b_ hbn];refine⟨rfl,fun bs r hbl e=>h3 ?_⟩;have e':u=bs.map yt++10::r:=by
     have:=eR ((show w++32::u=w++(32::(bs.map yt++10::r)) by rw [e];simp [tF]));exact(List.cons.inj this).2
    subst e';rw [fM (by omega),List.getElem_append_right (by simp;omega)];simp [hbl]
  ·right;rw [b_ h2];refine⟨rfl,fun bs r hbl e=>h2 ?_⟩;rw [e];unfold tF;rw [cR,List.take_append,List.take_of_length_le (by omega)];simp
end
section
variable {p:ah} (hp:VP p)
include hp
theorem nA {t r:List UInt8} {bs l0 l1 l2 l3 l4 l5 l6:List Bool} {b:Bool} (h:fw (sb t) (sb (fU 0)) (p.aa.length:Int)=some (bs,sb r,b)):aZ p (sb t,l0,l1,l2,l3,l4,l5,l6,0)=some (bif b then .next (sb r,bs,l1,l2,l3,l4,l5,l6,1)else .done (.ret (Z1,3))):=by
 have hb:=hp.b;unfold aZ;dsimp only;refine(congrArg (fun x=>Option.bind x _) (show _=some (bs,sb r,b)from h)).trans ?_;cases b<;>rfl
theorem oQ {t r:List UInt8} {bs l0 l1 l2 l3 l4 l5 l6:List Bool} {b:Bool} (h:fw (sb t) (sb (fU 1)) (p.aa.length:Int)=some (bs,sb r,b)):aZ p (sb t,l0,l1,l2,l3,l4,l5,l6,1)=some (bif b then .next (sb r,l0,bs,l2,l3,l4,l5,l6,2)else .done (.ret (Z1,3))):=by
 have hb:=hp.b;unfold aZ;dsimp only;refine(congrArg (fun x=>Option.bind x _) (show _=some (bs,sb r,b)from h)).trans ?_;cases b<;>rfl
theorem qC {t r:List UInt8} {bs l0 l1 l2 l3 l4 l5 l6:List Bool} {b:Bool} (h:fw (sb t) (sb (fU 2)) (p.ac.length:Int)=some (bs,sb r,b)):aZ p (sb t,l0,l1,l2,l3,l4,l5,l6,2)=some (bif b then .next (sb r,l0,l1,bs,l3,l4,l5,l6,3)else .done (.ret (Z1,3))):=by
 have hb:=hp.b;unfold aZ;dsimp only;refine(congrArg (fun x=>Option.bind x _) (show _=some (bs,sb r,b)from h)).trans ?_;cases b<;>rfl
theorem tq {t r:List UInt8} {bs l0 l1 l2 l3 l4 l5 l6:List Bool} {b:Bool} (h:fw (sb t) (sb (fU 3)) (p.ac.length:Int)=some (bs,sb r,b)):aZ p (sb t,l0,l1,l2,l3,l4,l5,l6,3)=some (bif b then .next (sb r,l0,l1,l2,bs,l4,l5,l6,4)else .done (.ret (Z1,3))):=by
 have hb:=hp.b;unfold aZ;dsimp only;refine(congrArg (fun x=>Option.bind x _) (show _=some (bs,sb r,b)from h)).trans ?_;cases b<;>rfl
theorem yL {t r:List UInt8} {bs l0 l1 l2 l3 l4 l5 l6:List Bool} {b:Bool} (h:fw (sb t) (sb (fU 4)) (p.ac.length:Int)=some (bs,sb r,b)):aZ p (sb t,l0,l1,l2,l3,l4,l5,l6,4)=some (bif b then .next (sb r,l0,l1,l2,l3,bs,l5,l6,5)else .done (.ret (Z1,3))):=by
 have hb:=hp.b;unfold aZ;dsimp only;refine(congrArg (fun x=>Option.bind x _) (show _=some (bs,sb r,b)from h)).trans ?_;cases b<;>rfl
theorem DK {t r:List UInt8} {bs l0 l1 l2 l3 l4 l5 l6:List Bool} {b:Bool} (h:fw (sb t) (sb (fU 5)) ((p.ae.toNat:Nat):Int)=some (bs,sb r,b)):aZ p (sb t,l0,l1,l2,l3,l4,l5,l6,5)=some (bif b then .next (sb r,l0,l1,l2,l3,l4,bs,l6,6)else .done (.ret (Z1,3))):=by
 have hb:=hp.b;unfold aZ;dsimp only;refine(congrArg (fun x=>Option.bind x _) (show _=some (bs,sb r,b)from by rw [show((p.ae.toNat:Nat):Int)=p.ae by omega]at h;exact h)).trans ?_;cases b<;>rfl
theorem Jv {t r:List UInt8} {bs l0 l1 l2 l3 l4 l5 l6:List Bool} {b:Bool} (h:fw (sb t) (sb (fU 6)) ((p.ae.toNat:Nat):Int)=some (bs,sb r,b)):aZ p (sb t,l0,l1,l2,l3,l4,l5,l6,6)=some (bif b then .next (sb r,l0,l1,l2,l3,l4,l5,bs,7)else .done (.ret (Z1,3))):=by
 have hb:=hp.b;unfold aZ;dsimp only;refine(congrArg (fun x=>Option.bind x _) (show _=some (bs,sb r,b)from by rw [show((p.ae.toNat:Nat):Int)=p.ae by omega]at h;exact h)).trans ?_;cases b<;>rfl
omit hp in
theorem OC (t:ByteArray) (l0 l1 l2 l3 l4 l5 l6:List Bool):aZ p (t,l0,l1,l2,l3,l4,l5,l6,7)=some (.done (.brk (t,l0,l1,l2,l3,l4,l5,l6))):=rfl
theorem Qz {t:List UInt8} (ht:t.length<=200000):(aH (aZ p) FUEL (sb t,[],[],[],[],[],[],[],0)=some (.ret (Z1,3))/\ ∀S,VS p S->t≠KG S [])\/
  (∃S r,t=KG S r/\S.a_.length=p.ac.length/\S.ba.length=p.ac.length/\S.aq.length=p.ac.length/\S.on_.length=p.aa.length/\S.ag.length=p.aa.length/\S.aw.length=p.ae.toNat/\S.ap.length=p.ae.toNat/\
   aH (aZ p) FUEL (sb t,[],[],[],[],[],[],[],0)=some (.brk (sb r,S.on_,S.ag,S.a_,S.ba,S.aq,S.aw,S.ap))):=by
 have h1:=hp.ll;have h2:=hp.sl;have h3:=hp.b;have up: ∀{x:ByteArray × List Bool × List Bool × List Bool × List Bool × List Bool × List Bool × List Bool × Int} {r:Ex (ByteArray × List Bool × List Bool × List Bool × List Bool × List Bool × List Bool × List Bool) (State × Int)},aH (aZ p) 8 x=some r->aH (aZ p) FUEL x=some r:=fun h=>uY h (by unfold FUEL;omega);rcases zI (t:=t) (w:=fU 0) (N:=p.aa.length) (by omega) (by decide) (by omega)with⟨b0,r0,n0,e0,c0⟩|⟨c0,m0⟩
 rotate_left
 ·refine .inl ⟨up (by rw [ai,nA hp c0];rfl),fun S hv e=> ?_⟩;obtain⟨k1,k2,k3,k4,k5,k6,k7,_⟩:=hv;unfold KG at e;exact m0 _ _ (by omega) e
 have q0:=congrArg List.length e0;rw [cd]at q0;rcases zI (t:=r0) (w:=fU 1) (N:=p.aa.length) (by omega) (by decide) (by omega)with⟨b1,r1,n1,e1,c1⟩|⟨c1,m1⟩
 rotate_left
 ·refine .inl ⟨up (by rw [ai,nA hp c0];dsimp only [cond_true];rw [ai,oQ hp c1];rfl),fun S hv e=> ?_⟩;obtain⟨k1,k2,k3,k4,k5,k6,k7,_⟩:=hv;unfold KG at e;rw [e0]at e;obtain⟨_,f0⟩:=bZ e (by rw [n0];omega);exact m1 _ _ (by omega) f0
 have q1:=congrArg List.length e1;rw [cd]at q1;rcases zI (t:=r1) (w:=fU 2) (N:=p.ac.length) (by omega) (by decide) (by omega)with⟨b2,r2,n2,e2,c2⟩|⟨c2,m2⟩
 rotate_left
 ·refine .inl ⟨up (by rw [ai,nA hp c0];dsimp only [cond_true];rw [ai,oQ hp c1];dsimp only [cond_true];rw [ai,qC hp c2];rfl),fun S hv e=> ?_⟩;obtain⟨k1,k2,k3,k4,k5,k6,k7,_⟩:=hv;unfold KG at e;rw [e0]at e;obtain⟨_,f0⟩:=bZ e (by rw [n0];omega);rw [e1]at f0;obtain⟨_,f1⟩:=bZ f0 (by rw [n1];omega);exact m2 _ _ (by omega) f1
 have q2:=congrArg List.length e2;rw [cd]at q2;rcases zI (t:=r2) (w:=fU 3) (N:=p.ac.length) (by omega) (by decide) (by omega)with⟨b3,r3,n3,e3,c3⟩|⟨c3,m3⟩
 rotate_left
 ·refine .inl ⟨up (by rw [ai,nA hp c0];dsimp only [cond_true];rw [ai,oQ hp c1];dsimp only [cond_true];rw [ai,qC hp c2];dsimp only [cond_true];rw [ai,tq hp c3];rfl),fun S hv e=> ?_⟩;obtain⟨k1,k2,k3,k4,k5,k6,k7,_⟩:=hv;unfold KG at e;rw [e0]at e;obtain⟨_,f0⟩:=bZ e (by rw [n0];omega);rw [e1]at f0;obtain⟨_,f1⟩:=bZ f0 (by rw [n1];omega);rw [e2]at f1;obtain⟨_,f2⟩:=bZ f1 (by rw [n2];omega);exact m3 _ _ (by omega) f2
 have q3:=congrArg List.length e3;rw [cd]at q3;rcases zI (t:=r3) (w:=fU 4) (N:=p.ac.length) (by omega) (by decide) (by omega)with⟨b4,r4,n4,e4,c4⟩|⟨c4,m4⟩
 rotate_left
 ·refine .inl ⟨up (by rw [ai,nA hp c0];dsimp only [cond_true];rw [ai,oQ hp c1];dsimp only [cond_true];rw [ai,qC hp c2];dsimp only [cond_true];rw [ai,tq hp c3];dsimp only [cond_true];rw [ai,yL hp c4];rfl),fun S hv e=> ?_⟩;obtain⟨k1,k2,k3,k4,k5,k6,k7,_⟩:=hv;unfold KG at e;rw [e0]at e;obtain⟨_,f0⟩:=bZ e (by rw [n0];omega);rw [e1]at f0;obtain⟨_,f1⟩:=bZ f0 (by rw [n1];omega);rw [e2]at f1;obtain⟨_,f2⟩:=bZ f1 (by rw [n2];omega);rw [e3]at f2;obtain⟨_,f3⟩:=bZ f2 (by rw [n3];omega);exact m4 _ _ (by omega) f3
 have q4:=congrArg List.length e4;rw [cd]at q4;rcases zI (t:=r4) (w:=fU 5) (N:=p.ae.toNat) (by omega) (by decide) (by omega)with⟨b5,r5,n5,e5,c5⟩|⟨c5,m5⟩
 rotate_left
 ·refine .inl ⟨up (by rw [ai,nA hp c0];dsimp only [cond_true];rw [ai,oQ hp c1];dsimp only [cond_true];rw [ai,qC hp c2];dsimp only [cond_true];rw [ai,tq hp c3];dsimp only [cond_true];rw [ai,yL hp c4];dsimp only [cond_true];rw [ai,DK hp c5];rfl),fun S hv e=> ?_⟩;obtain⟨k1,k2,k3,k4,k5,k6,k7,_⟩:=hv;unfold KG at e;rw [e0]at e;obtain⟨_,f0⟩:=bZ e (by rw [n0];omega);rw [e1]at f0;obtain⟨_,f1⟩:=bZ f0 (by rw [n1];omega);rw [e2]at f1;obtain⟨_,f2⟩:=bZ f1 (by rw [n2];omega);rw [e3]at f2;obtain⟨_,f3⟩:=bZ f2 (by rw [n3];omega);rw [e4]at f3;obtain⟨_,f4⟩:=bZ f3 (by rw [n4];omega);exact m5 _ _ (by omega) f4
 have q5:=congrArg List.length e5;rw [cd]at q5;rcases zI (t:=r5) (w:=fU 6) (N:=p.ae.toNat) (by omega) (by decide) (by omega)with⟨b6,r6,n6,e6,c6⟩|⟨c6,m6⟩
 rotate_left
 ·refine .inl ⟨up (by rw [ai,nA hp c0];dsimp only [cond_true];rw [ai,oQ hp c1];dsimp only [cond_true];rw [ai,qC hp c2];dsimp only [cond_true];rw [ai,tq hp c3];dsimp only [cond_true];rw [ai,yL hp c4];dsimp only [cond_true];rw [ai,DK hp c5];dsimp only [cond_true];rw [ai,Jv hp c6];rfl),fun S hv e=> ?_⟩;obtain⟨k1,k2,k3,k4,k5,k6,k7,_⟩:=hv;unfold KG at e;rw [e0]at e;obtain⟨_,f0⟩:=bZ e (by rw [n0];omega);rw [e1]at f0;obtain⟨_,f1⟩:=bZ f0 (by rw [n1];omega);rw [e2]at f1;obtain⟨_,f2⟩:=bZ f1 (by rw [n2];omega);rw [e3]at f2;obtain⟨_,f3⟩:=bZ f2 (by rw [n3];omega);rw [e4]at f3;obtain⟨_,f4⟩:=bZ f3 (by rw [n4];omega);rw [e5]at f4;obtain⟨_,f5⟩:=bZ f4 (by rw [n5];omega);exact m6 _ _ (by omega) f5
 have q6:=congrArg List.length e6;rw [cd]at q6;refine .inr ⟨⟨b2,b3,b4,b0,b1,b5,b6⟩,r6, ?_,n2,n3,n4,n0,n1,n5,n6,up (by rw [ai,nA hp c0];dsimp only [cond_true];rw [ai,oQ hp c1];dsimp only [cond_true];rw [ai,qC hp c2];dsimp only [cond_true];rw [ai,tq hp c3];dsimp only [cond_true];rw [ai,yL hp c4];dsimp only [cond_true];rw [ai,DK hp c5];dsimp only [cond_true];rw [ai,Jv hp c6];dsimp only [cond_true];rw [ai,OC])⟩;rw [e0,e1,e2,e3,e4,e5,e6];rfl
theorem UD {S:State} (hs:VS p S) {t:List UInt8} (ht:t.length<=200000) (e:t=KG S []):wo p t=(S,0):=by
 have h1:=LC hp hs;rw [JR,<-e,Kt hp.small ht]at h1;exact Option.some.inj h1
theorem CK {t:List UInt8} (h: ∀S,VS p S->t≠KG S []):wo p t=(Z1,3):=by
 unfold wo;rw [ci (fun hc=>hc (fq.mpr hp))];refine ci fun hc=> ?_;obtain⟨_,hv⟩:=jR.mp hc.1;exact h _ hv (zH (hc.2.symm.trans (JR _)))
theorem OH {t:List UInt8} (ht:t.length<=200000):lS p (sb t)=some (wo p t):=by
 have h1:=hp.ll;have h3:=hp.b;unfold lS;rw [nk p hp.small,bt,fq.mpr hp,bz rfl,cE,bv];rcases Qz hp ht with⟨hl,hm⟩|⟨S,r,e,k1,k2,k3,k4,k5,k6,k7,hl⟩;·rw [hl,CK hp hm];rfl
 ·rw [hl,bt];dsimp only;rw [pY [],vo,D9 p _ (by omega)];show(bif gB [(!decide (r=[]),false)]then some (jk p S && !(List.range p.ac.length).any (eX p S))else some default).bind (fun r_2=>bif (bif !decide (r=[])then true else !r_2)then some (Z1,3)else some (S,0))=_;by_cases h0:r=[]
  ·subst h0;rw [bz rfl,cE,show gB [(false,false)]=true from rfl,bu,bt,bv];have hst:ol p S=if(jk p S && !(List.range p.ac.length).any (eX p S))=true then 0 else 9:=by
    unfold ol;rw [ci (fun h=>h (fq.mpr hp))]
   cases hB:(jk p S && !(List.range p.ac.length).any (eX p S))with
   |true=>
    rw [hB,cj rfl]at hst;rw [UD hp (jR.mp hst).2 ht e];rfl
   |false=>
    rw [hB,ci (by decide)]at hst;rw [CK hp fun S' hv e'=> ?_];·rfl
    ·rw [e]at e';have hSS:S=S':=by
      obtain⟨j1,j2,j3,j4,j5,j6,j7,_⟩:=hv;unfold KG at e';obtain⟨a0,f0⟩:=bZ e' (by omega);obtain⟨a1,f1⟩:=bZ f0 (by omega);obtain⟨a2,f2⟩:=bZ f1 (by omega);obtain⟨a3,f3⟩:=bZ f2 (by omega);obtain⟨a4,f4⟩:=bZ f3 (by omega);obtain⟨a5,f5⟩:=bZ f4 (by omega);obtain⟨a6,_⟩:=bZ f5 (by omega);cases S;cases S';simp only at a0 a1 a2 a3 a4 a5 a6;subst a0 a1 a2 a3 a4 a5 a6;rfl
     rw [<-hSS]at hv;have:=jR.mpr ⟨hp,hv⟩;omega
  ·rw [b_ h0,CK hp fun S' hv e'=> ?_]
   ·rfl
   ·rw [e]at e';obtain⟨j1,j2,j3,j4,j5,j6,j7,_⟩:=hv;unfold KG at e';obtain⟨a0,f0⟩:=bZ e' (by omega);obtain⟨a1,f1⟩:=bZ f0 (by omega);obtain⟨a2,f2⟩:=bZ f1 (by omega);obtain⟨a3,f3⟩:=bZ f2 (by omega);obtain⟨a4,f4⟩:=bZ f3 (by omega);obtain⟨a5,f5⟩:=bZ f4 (by omega);exact h0 (bZ f5 (by omega)).2
end
theorem O5 {p:ah} (hp:Small p) {t:List UInt8} (ht:t.length<=200000):lS p (sb t)=some (wo p t):=by
 by_cases hv:VP p;·exact OH hv ht
 ·have hc: ¬ fZ p=0:=fun e=>hv (fq.mp e);unfold lS wo;rw [nk p hp,bt,b_ hc,cj hc];rfl
theorem Uu {p:ah} (hp:Small p): ∃T e,eT p=some (sb T,e)/\iw p=some (sb T,e)/\T.length<=131072:=by
 by_cases hv:VP p;·exact⟨vN p,0,NY hv,Ky hv,by have:=tY hv;omega⟩
 ·exact⟨[],fZ p,Nw hp hv,Hw hp hv,by simp⟩
theorem QN {p:ah} (hp:Small p) (s:State): ∃U e,gJ p s=some (sb U,e)/\nE p s=some (sb U,e)/\U.length<=200000:=by
 rw [Nh hp];by_cases h0:ol p s=0
 ·obtain⟨hv,hvs⟩:=jR.mp h0;have h1:=hv.ll;have h2:=hv.sl;have h3:=hv.b;have k1:=hvs.a_;have k2:=hvs.ba;have k3:=hvs.aq;have k4:=hvs.on;have k5:=hvs.ag;have k6:=hvs.aw;have k7:=hvs.ap;have e1:gJ p s=some (sb (KG s []),0):=by
   unfold gJ;rw [o8 p s hp,h0,bt,bz rfl,cE,bv,J7 hv hvs,JR];rfl
  refine⟨_,_,e1,e1, ?_⟩;have w: ∀j,j<7->(fU j).length<=9:=by decide
  have w0:=w 0 (by decide);have w1:=w 1 (by decide);have w2:=w 2 (by decide);have w3:=w 3 (by decide);have w4:=w 4 (by decide);have w5:=w 5 (by decide);have w6:=w 6 (by decide);simp only [KG,cd,xA,List.length_nil];omega
 ·have e1:gJ p s=some (sb [],ol p s):=by
   unfold gJ;rw [o8 p s hp,bt,b_ h0];rfl
  exact⟨_,_,e1,e1,by simp⟩
theorem VP.aas {p:ah} (h:VP p):RJ p:=by
 have h1:=h.sl;have h2:=h.ll;have h3:=h.rl;refine⟨by omega,by omega,by omega,fun x hx=> ?_⟩;obtain⟨i,hi,rfl⟩:=jG hx;have:=(h.lnk i hi).tl;omega
theorem OX {t:List UInt8} (ht:t.length<=131072): ∃q n e,lZ (sb t)=some (q,n,e)/\mg (sb t)=some (q,n,e)/\iN q q=some true:=by
 obtain⟨ok,e,m,hl⟩:=Jr t.length t E1 0 0 (cz _);refine⟨(wY ok e m).1,(wY ok e m).2.1,(wY ok e m).2.2,Uh ht hl,Lx ht hl, ?_⟩;have hE:iN E1 E1=some true:=yc ⟨by simp [E1],by simp [E1],by simp [E1],fun x hx=>by cases hx⟩;unfold wY;by_cases hc:ok=true/\0<m
 ·rw [cj hc];by_cases h1:fZ e=0
  ·rw [cj h1];exact yc (fq.mp h1).aas
  ·rw [ci h1];exact hE
 ·rw [ci hc];exact hE
theorem NW (p:ah) (t:List UInt8):iK (wo p t).1 (wo p t).1=some true:=by
 have hZ:iK Z1 Z1=some true:=xO Z1 ⟨by simp [Z1],by simp [Z1],by simp [Z1],by simp [Z1],by simp [Z1],by simp [Z1],by simp [Z1]⟩;unfold wo;by_cases h0:fZ p≠0;·rw [cj h0];exact hZ
 ·rw [ci h0];by_cases h1:ol p (TP (aM 10 t))=0/\nC (M8 (TP (aM 10 t)))=sb t
  ·rw [cj h1];obtain⟨hv,hvs⟩:=jR.mp h1.1;exact xO _ (hvs.room hv)
  ·rw [ci h1];exact hZ
theorem TS {a b:List UInt8} {t:Nat} (h:t<2) {k:Nat} (ha:a.length<=k) (hb:b.length<=k): ∃x,at' [sb a,sb b] t=sb x/\x.length<=k:=by
 match t,h with
 |0,_=>exact⟨a,rfl,ha⟩
 |1,_=>exact⟨b,rfl,hb⟩
theorem Xa {a T:List UInt8} {e:Int} (ha:a.length<=131072) (hT:T.length<=131072):aH (iG (sb a) (sb T,e)) FUEL 0=some (.brk ()):=by
 refine eY (N:=FUEL) (fun t=>(t:Int)) 2 _ (by unfold FUEL;omega) (fun t ht=> ?_) ?_
 ·obtain⟨x,hx,hxl⟩:=TS ht ha hT;obtain⟨q,n,z,h1,h2,h3⟩:=OX hxl;unfold iG;rw [bz (show(t:Int)<(([sb a,sb T].length:Nat):Int) by show(t:Int)<2;omega),bu,aB (show(0:Int)<=(t:Int)/\(t:Int)<(([sb a,sb T].length:Nat):Int) by show _/\(t:Int)<2;omega),bx,hx,h1,h2,bt,bt];dsimp only;rw [bz rfl,bz rfl,h3,wr (by omega)];rfl
 ·unfold iG;rfl
theorem XR {p:ah} (hp:Small p) {a T:List UInt8} {e:Int} (ha:a.length<=200000) (hT:T.length<=200000):aH (iF p (sb a) (sb T,e)) FUEL 0=some (.brk ()):=by
 refine eY (N:=FUEL) (fun t=>(t:Int)) 2 _ (by unfold FUEL;omega) (fun t ht=> ?_) ?_
 ·obtain⟨x,hx,hxl⟩:=TS ht ha hT;unfold iF;rw [bz (show(t:Int)<(([sb a,sb T].length:Nat):Int) by show(t:Int)<2;omega),bu,aB (show(0:Int)<=(t:Int)/\(t:Int)<(([sb a,sb T].length:Nat):Int) by show _/\(t:Int)<2;omega),bx,hx,Kt hp hxl,O5 hp hxl,bt,bt];rw [bz rfl,NW,wr (by omega)];rfl
 ·unfold iF;rfl
theorem EG (p:ah) (s:State) (text state:ByteArray) (hp:Small p):kr p s text state=some true:=by
 unfold kr;rw [XI,bt];cases hB:RZ p with
 |true=>rw [bu,bu,bu,EN];rfl
 |false=>
  rw [bv];by_cases ht:4000<((text.size:Nat):Int);·rw [bz ht,bu,bu,EN];rfl
  ·rw [b_ ht,bv];by_cases hs:4000<((state.size:Nat):Int)
   ·rw [bz hs,bu,EN];rfl
   ·rw [b_ hs,bv];obtain⟨T,e,h1,h2,h3⟩:=Uu hp;obtain⟨U,f,k1,k2,k3⟩:=QN hp s;have l1:text.data.toList.length=text.size:=by simp
    have l2:state.data.toList.length=state.size:=by simp
    have q1:=Xa (a:=text.data.toList) (T:=T) (e:=e) (by omega) h3;have q2:=XR hp (a:=state.data.toList) (T:=U) (e:=f) (by omega) k3;rw [EL]at q1 q2;rw [h1,h2,k1,k2,bt,bt,bt,bt];dsimp only;rw [bz rfl,bz rfl,vo,vo,bz rfl,bz rfl,q1,q2,EN];rfl
end Sg
