import Derived.Test.YtcafpngcflplgaaGreatDoorSmLc
import Derived.Test.YtcafpngcflplgaaGreatDoorSmGm
import Derived.KernelRfl
import Derived.Test.YtcafpngcflplgaaGreatDoorSmLg
import Derived.Lib.AtoiTie
import Derived.Lib.ItoaLen
import Derived.Lib.IndexBytes
set_option linter.all false
namespace Sg
open Go
theorem wr {x:Int} (h: -9223372036854775808<=x/\x<=9223372036854775807):IntKind.wrap .i64 x=x:=by rw [IntKind.wrap_i64];omega
theorem rW {σ ρ:Type} {body:σ->Option (bC σ ρ)}: ∀{n m:Nat} {s:σ} {r:ρ},aI body n s=some r->n<=m->aI body m s=some r
 |0,_,_,_,h,_=>by cases h
 |n+1,0,_,_,_,hm=>by omega
 |n+1,m+1,s,r,h,hm=>by
  rw [aF]at h ⊢;revert h;cases body s with
  |none=>exact id
  |some f=>
   cases f with
   |next s'=>exact fun h=>rW h (by omega)
   |done r=>exact id
theorem Kh {σ ρ:Type} {body:σ->Option (bC σ ρ)} (S:Nat->σ) (k:Nat) (hs: ∀i,i<k->body (S i)=some (.next (S (i+1)))): ∀(m:Nat),aI body (k+m) (S 0)=aI body m (S k):=by
 induction k with
 |zero=>intro m;simp
 |succ k ih=>
  intro m;have:=ih (fun i hi=>hs i (by omega)) (m+1);rw [show k+1+m=k+(m+1) by omega,this,aF,hs k (by omega)]
theorem iK {σ ρ:Type} {body:σ->Option (bC σ ρ)} {N:Nat} (S:Nat->σ) (k:Nat) (r:ρ) (hk:k<N) (hs: ∀i,i<k->body (S i)=some (.next (S (i+1)))) (hd:body (S k)=some (.done r)):aI body N (S 0)=some r:=by
 have h:=Kh S k hs 1;have h1:aI body 1 (S k)=some r:=by rw [aF,hd]
 exact rW (h.trans h1) (by omega)
theorem fuel_lt {k:Nat} (h:k<=9223372036854775807):k<FUEL:=by unfold FUEL;omega
section
variable {α:Type} [Inhabited α]
theorem jd {l:List α} {i:Nat} (h:i<l.length):at' l i=l[i]:=by simp [at',h]
theorem at_mem {l:List α} {i:Nat} (h:i<l.length):at' l i∈l:=by rw [jd h];exact List.getElem_mem h
theorem qX {l:List α} {x:α} (h:x∈l): ∃i,i<l.length/\at' l i=x:=by
 obtain⟨i,hi,e⟩:=List.mem_iff_getElem.mp h;exact⟨i,hi,by rw [jd hi];exact e⟩
theorem zQ {l:List α} {i:Nat} (h:i<l.length):l.take (i+1)=l.take i++[at' l i]:=by
 rw [jd h,List.take_succ_eq_append_getElem h]
theorem yM {ρ:Type} {body:Int->Option (bC Int (Ex Unit ρ))} (l:List α) (bad:α->Bool) (f:Int->ρ) (hl:l.length<=9223372036854775807)
  (hb: ∀i:Nat,i<l.length->body i=some (bif bad (at' l i)then .done (.ret (f i))else .next ((i:Int)+1))) (he:body l.length=some (.done (.brk ()))):
  aI body FUEL 0=some (match l.findIdx? bad with|some i=> .ret (f i)|none=> .brk ()):=by
 cases h:l.findIdx? bad with
 |none=>
  rw [List.findIdx?_eq_none_iff]at h;refine iK (fun i=>(i:Int)) l.length _ (fuel_lt (by omega)) (fun i hi=> ?_) he;rw [hb i hi,h _ (at_mem hi)];simp
 |some k=>
  rw [List.findIdx?_eq_some_iff_getElem]at h;obtain⟨hk,hp,hn⟩:=h;refine iK (fun i=>(i:Int)) k _ (fuel_lt (by omega)) (fun i hi=> ?_) ?_
  ·have:=hn i hi;rw [hb i (by omega),jd (by omega)];simp [this]
  ·rw [hb k hk,jd hk,hp];rfl
omit [Inhabited α]in
theorem vz (l:List α) (bad:α->Bool):(decide ((0:Int)<=(match l.findIdx? bad with|some i=>(i:Int)|none=> -1)))=l.any bad:=by
 cases h:l.findIdx? bad with
 |none=>
  rw [List.findIdx?_eq_none_iff]at h;have:l.any bad=false:=by rw [c7];intro x hx;simp [h x hx]
  rw [this];simp
 |some k=>
  rw [List.findIdx?_eq_some_iff_getElem]at h;obtain⟨hk,hp,hn⟩:=h;have:l.any bad=true:=by rw [c6];exact⟨_,List.getElem_mem hk,hp⟩
  rw [this];simp
end
section
variable {α:Type}
end
theorem Rf {α:Type} (c:Bool) (x y:α):(bif c then some x else some y)=some (bif c then x else y):=by cases c<;>rfl
theorem nX {ρ:Type} {body:Int->Option (bC Int (Ex Unit ρ))} (n:Nat) (bad:Nat->Bool) (f:Int->ρ) (hl:n<=9223372036854775807)
  (hb: ∀i:Nat,i<n->body i=some (bif bad i then .done (.ret (f i))else .next ((i:Int)+1))) (he:body n=some (.done (.brk ()))):
  aI body FUEL 0=some (match(List.range n).find? bad with|some i=> .ret (f i)|none=> .brk ()):=by
 cases h:(List.range n).find? bad with
 |none=>
  rw [List.find?_eq_none]at h;refine iK (fun i=>(i:Int)) n _ (fuel_lt (by omega)) (fun i hi=> ?_) he;rw [hb i hi];have:=h i (List.mem_range.mpr hi);simp at this;simp [this]
 |some k=>
  rw [List.find?_range_eq_some]at h;obtain⟨hp,hk,hn⟩:=h;rw [cY]at hk;refine iK (fun i=>(i:Int)) k _ (fuel_lt (by omega)) (fun i hi=> ?_) ?_
  ·have:=hn i hi;rw [hb i (by omega)];simp at this;simp [this]
  ·rw [hb k hk,hp];rfl
theorem Dp {α:Type} (p:α->Bool): ∀l:List α,(l.find? p).isSome=l.any p
 |[]=>rfl
 |x::l=>by
  rw [List.any_cons,List.find?_cons];cases h:p x with
  |true=>simp
  |false=>simpa using Dp p l
def wi (n a b:Int):Bool:=decide (a<=n) && decide (n<=b)
theorem Ce {n a b:Int}:wi n a b=true↔a<=n/\n<=b:=by simp [wi]
theorem rH (n a b:Int):aT n a b=some (wi n a b):=by
 unfold aT wi;cases decide (a<=n)<;>rfl
def nV (b:Int) (x:Source):Bool:=wi x.bus 0 (b - 1) && wi x.kind 1 3 && wi x.power 1 100000 && wi x.bk 0 8 && wi x.ohm 10 100000
theorem OQ {b:Int} (hb:1<=b/\b<=24) (x:Source) (l1:List Source) (l2:List Link) (l3:List aD):kr x b l1 l2 l3=some (nV b x):=by
 unfold kr nV;simp only [rH,br];rw [wr (by omega)];generalize wi x.bus 0 (b - 1)=b1;generalize wi x.kind 1 3=b2;generalize wi x.power 1 100000=b3;generalize wi x.bk 0 8=b4;generalize wi x.ohm 10 100000=b5;cases b1<;>cases b2<;>cases b3<;>cases b4<;>cases b5<;>rfl
def jS (l:List au) (i:Nat):Bool:=
 !wi (at' l i).bp 1 1000000|| !wi (at' l i).bj 1 100000||(decide (0<i) && (decide ((at' l i).bp<=(at' l (i - 1)).bp)||decide ((at' l (i - 1)).bj<=(at' l i).bj)))
def jF (b:Int) (x:Link):Bool:=
 wi x.a 0 (b - 1) && wi x.b 0 (b - 1) && !decide (x.a=x.b) && wi x.kind 1 3 && wi x.most 1 100000 && wi x.ohm 10 100000 && !(List.range x.trip.length).any (jS x.trip) && decide ((x.trip.length:Int)<=6) && (decide ((x.trip.length:Int)=0)||decide (x.kind=3))
theorem Np {α:Type} [Inhabited α] (l:List α) (i:Nat) (h:0<i):at' l (((i:Int) - 1).toNat)=at' l (i - 1):=by
 congr 1;omega
theorem Vh (x:Link) (hx:x.trip.length<=9223372036854775807):aI (jT x) FUEL 0=some (match(List.range x.trip.length).find? (jS x.trip)with|some _=> .ret false|none=> .brk ()):=by
 refine nX x.trip.length (jS x.trip) (fun _=>false) hx (fun i hi=> ?_) ?_
 ·unfold jT;have h1:decide ((i:Int)<(x.trip.length:Int))=true:=by simp;omega
  rw [h1,bt,aJ (by omega)];simp only [rH,br,bw];rw [wr (x:=(i:Int) - 1) (by omega),wr (x:=(i:Int)+1) (by omega)];unfold jS;by_cases h0:0<i
  ·rw [Np _ _ h0];simp only [h0,Int.natCast_pos,decide_true];generalize wi (at' x.trip i).bp 1 1000000=b1;generalize wi (at' x.trip i).bj 1 100000=b2;generalize decide ((at' x.trip i).bp<=(at' x.trip (i - 1)).bp)=b3;generalize decide ((at' x.trip (i - 1)).bj<=(at' x.trip i).bj)=b4;cases b1<;>cases b2<;>cases b3<;>cases b4<;>simp [gB,aX]<;>omega
  ·have:i=0:=by omega
   subst this;generalize wi (at' x.trip 0).bp 1 1000000=b1;generalize wi (at' x.trip 0).bj 1 100000=b2;cases b1<;>cases b2<;>simp [gB,aX]
 ·unfold jT;have h1:decide ((x.trip.length:Int)<(x.trip.length:Int))=false:=by simp
  rw [h1];rfl
theorem UD {b:Int} (hb:1<=b/\b<=24) (x:Link) (hx:x.trip.length<=9223372036854775807) (l1:List Source) (l2:List Link) (l3:List aD):lY x b l1 l2 l3=some (jF b x):=by
 unfold lY jF;simp only [rH,br];rw [wr (by omega),Vh x hx];generalize wi x.a 0 (b - 1)=b1;generalize wi x.b 0 (b - 1)=b2;generalize decide (x.a=x.b)=b3;generalize wi x.kind 1 3=b4;generalize wi x.most 1 100000=b5;generalize wi x.ohm 10 100000=b6;have:(List.range x.trip.length).any (jS x.trip)=((List.range x.trip.length).find? (jS x.trip)).isSome:=(Dp _ _).symm;rw [this];cases b1<;>cases b2<;>cases b3<;>cases b4<;>cases b5<;>cases b6<;>try rfl
 cases(List.range x.trip.length).find? (jS x.trip)with
 |some k=>simp [gB]
 |none=>
  simp only [gB,br,Option.isSome_none];generalize decide ((x.trip.length:Int)<=6)=c1;generalize decide ((x.trip.length:Int)=0)=c2;generalize decide (x.kind=3)=c3;cases c1<;>cases c2<;>cases c3<;>rfl
def rA (x:aD):Int:=if x.aw.e1= -1 then 1 else 2
def j4 (b:Int) (x:aD):Bool:=wi x.aw.e0 0 (b - 1) && wi x.aw.e1 (-1) (b - 1) && !decide (x.aw.e0=x.aw.e1) && wi x.power 1 100000 && wi x.bi 0 (rA x)
theorem R9 (x:aD):nH x=some (rA x):=by
 unfold nH rA;by_cases h:x.aw.e1= -1<;>simp [h]
theorem Ux {b:Int} (hb:1<=b/\b<=24) (x:aD) (l1:List Source) (l2:List Link) (l3:List aD):mq x b l1 l2 l3=some (j4 b x):=by
 unfold mq j4;simp only [rH,br,R9];rw [wr (by omega)];generalize wi x.aw.e0 0 (b - 1)=b1;generalize wi x.aw.e1 (-1) (b - 1)=b2;generalize decide (x.aw.e0=x.aw.e1)=b3;generalize hb4:wi x.power 1 100000=b4;cases b1<;>cases b2<;>cases b3<;>cases b4<;>simp [gB]<;>rfl
theorem vW {α ρ:Type} [Inhabited α] {l:List α} {i:Nat} (hi:i<l.length) (hl:l.length<=9223372036854775807) (b:Bool) (f:Int->ρ) (G:Option (bC Int (Ex Unit ρ))):
  (bif (decide ((i:Int)<(l.length:Int)))then((some b).bind fun r_=>aX ((0:Int)<=(i:Int)/\(i:Int)<(l.length:Int)) (bif r_ then some (.done (.ret (f (i:Int))))else some (.next (IntKind.wrap .i64 ((i:Int)+1)))))else G)=some (bif b then .done (.ret (f i))else .next ((i:Int)+1)):=by
 have h1:decide ((i:Int)<(l.length:Int))=true:=by simp;omega
 rw [h1,bt,br,aJ (by omega),wr (by omega)];cases b<;>rfl
theorem Qh {b:Int} (hb:1<=b/\b<=24) (l:List Source) (hl:l.length<=9223372036854775807) (m:Int) (l1:List Source) (l2:List Link) (l3:List aD):
  ow l m b l1 l2 l3=some (decide ((l.length:Int)<=m) && l.all (nV b)):=by
 have hs:gL l b l1 l2 l3=some (l.any fun x=> !nV b x):=by
  unfold gL lD;rw [yM l (fun x=> !nV b x) id hl (fun i hi=> ?_) ?_];·rw [<-vz];cases l.findIdx? fun x=> !nV b x<;>rfl
  ·unfold jE;simp
  ·unfold jE pV;rw [bw,OQ hb,br];exact vW hi hl _ id _
 unfold ow;rw [hs];have:(!l.any fun x=> !nV b x)=l.all (nV b):=by rw [List.not_any_eq_all_not];simp
 rw [<-this];cases decide ((l.length:Int)<=m)<;>simp [gB]
theorem O1 {b:Int} (hb:1<=b/\b<=24) (l:List Link) (hl:l.length<=9223372036854775807) (ht: ∀x∈l,x.trip.length<=9223372036854775807) (m:Int) (l1:List Source) (l2:List Link) (l3:List aD):
  mE l m b l1 l2 l3=some (decide ((l.length:Int)<=m) && l.all (jF b)):=by
 have hs:eZ l b l1 l2 l3=some (l.any fun x=> !jF b x):=by
  unfold eZ jI;rw [yM l (fun x=> !jF b x) id hl (fun i hi=> ?_) ?_];·rw [<-vz];cases l.findIdx? fun x=> !jF b x<;>rfl
  ·unfold iD;simp
  ·unfold iD mD;rw [bw,UD hb _ (ht _ (at_mem hi)),br];exact vW hi hl _ id _
 unfold mE;rw [hs];have:(!l.any fun x=> !jF b x)=l.all (jF b):=by rw [List.not_any_eq_all_not];simp
 rw [<-this];cases decide ((l.length:Int)<=m)<;>simp [gB]
theorem Ps {b:Int} (hb:1<=b/\b<=24) (l:List aD) (hl:l.length<=9223372036854775807) (m:Int) (l1:List Source) (l2:List Link) (l3:List aD):
  lW l m b l1 l2 l3=some (decide ((l.length:Int)<=m) && l.all (j4 b)):=by
 have hs:eU l b l1 l2 l3=some (l.any fun x=> !j4 b x):=by
  unfold eU jL;rw [yM l (fun x=> !j4 b x) id hl (fun i hi=> ?_) ?_];·rw [<-vz];cases l.findIdx? fun x=> !j4 b x<;>rfl
  ·unfold iF;simp
  ·unfold iF mG;rw [bw,Ux hb,br];exact vW hi hl _ id _
 unfold lW;rw [hs];have:(!l.any fun x=> !j4 b x)=l.all (j4 b):=by rw [List.not_any_eq_all_not];simp
 rw [<-this];cases decide ((l.length:Int)<=m)<;>simp [gB]
structure Small (p:af):Prop where
 src:p.aa.length<=9223372036854775807
 lnk:p.ae.length<=9223372036854775807
 rck:p.ac.length<=9223372036854775807
 trp: ∀x∈p.ae,x.trip.length<=9223372036854775807
def oL (p:af):Int:=
 if wi p.ag 1 24=false then 10 else if(decide ((p.aa.length:Int)<=8) && p.aa.all (nV p.ag))=false then 11
 else if(decide ((p.ae.length:Int)<=40) && p.ae.all (jF p.ag))=false then 12 else if(decide ((p.ac.length:Int)<=24) && p.ac.all (j4 p.ag))=false then 13 else 0
theorem SE (p:af) (hp:Small p):fq p=some (oL p):=by
 unfold fq oL;simp only [rH,br,pM,sK,tu];cases h0:wi p.ag 1 24 with
 |false=>simp
 |true=>
  have hb:=Ce.mp h0;rw [Qh hb _ hp.src,O1 hb _ hp.lnk hp.trp,Ps hb _ hp.rck];simp only [br,cD,bu];generalize (decide ((p.aa.length:Int)<=8) && p.aa.all (nV p.ag))=b1;generalize (decide ((p.ae.length:Int)<=40) && p.ae.all (jF p.ag))=b2;generalize (decide ((p.ac.length:Int)<=24) && p.ac.all (j4 p.ag))=b3;cases b1<;>cases b2<;>cases b3<;>simp
structure VL (b:Int) (x:Link):Prop where
 a:0<=x.a/\x.a<b
 b:0<=x.b/\x.b<b
 ab:x.a≠x.b
 kind:1<=x.kind/\x.kind<=3
 most:1<=x.most/\x.most<=100000
 ohm:10<=x.ohm/\x.ohm<=100000
 tl:x.trip.length<=6
 trip: ∀i,i<x.trip.length->jS x.trip i=false
 trk:x.trip=[]\/x.kind=3
structure ZI (b:Int) (x:Source):Prop where
 bus:0<=x.bus/\x.bus<b
 kind:1<=x.kind/\x.kind<=3
 power:1<=x.power/\x.power<=100000
 bk:0<=x.bk/\x.bk<=8
 ohm:10<=x.ohm/\x.ohm<=100000
structure VR (b:Int) (x:aD):Prop where
 e0:0<=x.aw.e0/\x.aw.e0<b
 e1: -1<=x.aw.e1/\x.aw.e1<b
 ne:x.aw.e0≠x.aw.e1
 power:1<=x.power/\x.power<=100000
 bi:0<=x.bi/\x.bi<=rA x
structure VP (p:af):Prop where
 b:1<=p.ag/\p.ag<=24
 sl:p.aa.length<=8
 src: ∀i,i<p.aa.length->ZI p.ag (at' p.aa i)
 ll:p.ae.length<=40
 lnk: ∀i,i<p.ae.length->VL p.ag (at' p.ae i)
 rl:p.ac.length<=24
 rck: ∀i,i<p.ac.length->VR p.ag (at' p.ac i)
structure VS (p:af) (s:State):Prop where
 a_:s.a_.length=p.ae.length
 bh:s.bh.length=p.ae.length
 aq:s.aq.length=p.ae.length
 on:s.on_.length=p.aa.length
 am:s.am.length=p.aa.length
 ba:(s.ba.length:Int)=p.ag
 ap:(s.ap.length:Int)=p.ag
 cable: ∀i,i<p.ae.length->(at' p.ae i).kind=1->at' s.a_ i=true/\at' s.bh i=false
theorem Gw {b:Int} {x:Source}:nV b x=true↔ZI b x:=by
 simp only [nV,cd,Ce];exact⟨fun⟨⟨⟨⟨h1,h2⟩,h3⟩,h4⟩,h5⟩=> ⟨by omega,h2,h3,h4,h5⟩,fun h=> ⟨⟨⟨⟨by have:=h.bus;omega,h.kind⟩,h.power⟩,h.bk⟩,h.ohm⟩⟩
theorem DY {b:Int} {x:aD}:j4 b x=true↔VR b x:=by
 simp only [j4,cd,Ce,c_,da];exact⟨fun⟨⟨⟨⟨h1,h2⟩,h3⟩,h4⟩,h5⟩=> ⟨by omega,by omega,h3,h4,h5⟩,fun h=> ⟨⟨⟨⟨by have:=h.e0;omega,by have:=h.e1;omega⟩,h.ne⟩,h.power⟩,h.bi⟩⟩
theorem EK {b:Int} {x:Link}:jF b x=true↔VL b x:=by
 simp only [jF,cd,Ce,c_,da,cN,dd,c7,cY,Bool.not_eq_true];constructor
 ·rintro ⟨⟨⟨⟨⟨⟨⟨⟨h1,h2⟩,h3⟩,h4⟩,h5⟩,h6⟩,h7⟩,h8⟩,h9⟩;exact⟨by omega,by omega,h3,h4,h5,h6,by omega,h7,h9.imp (fun h=>List.eq_nil_of_length_eq_zero (by omega)) id⟩
 ·intro h;refine⟨⟨⟨⟨⟨⟨⟨⟨by have:=h.a;omega,by have:=h.b;omega⟩,h.ab⟩,h.kind⟩,h.most⟩,h.ohm⟩,h.trip⟩,by have:=h.tl;omega⟩,h.trk.imp (fun e=>by simp [e]) id⟩
theorem Ka {p:af}:oL p=0↔VP p:=by
 unfold oL;constructor
 ·intro h;cases h0:wi p.ag 1 24 with
  |false=>rw [h0]at h;simp at h
  |true=>
   rw [h0]at h;cases h1:(decide ((p.aa.length:Int)<=8) && p.aa.all (nV p.ag))with
   |false=>rw [h1]at h;simp at h
   |true=>
    rw [h1]at h;cases h2:(decide ((p.ae.length:Int)<=40) && p.ae.all (jF p.ag))with
    |false=>rw [h2]at h;simp at h
    |true=>
     rw [h2]at h;cases h3:(decide ((p.ac.length:Int)<=24) && p.ac.all (j4 p.ag))with
     |false=>rw [h3]at h;simp at h
     |true=>
      simp only [cd,dd,List.all_eq_true]at h1 h2 h3;exact⟨Ce.mp h0,by omega,fun i hi=>Gw.mp (h1.2 _ (at_mem hi)),by omega,fun i hi=>EK.mp (h2.2 _ (at_mem hi)),by omega,fun i hi=>DY.mp (h3.2 _ (at_mem hi))⟩
 ·intro h;have h0:wi p.ag 1 24=true:=Ce.mpr h.b;have h1:(decide ((p.aa.length:Int)<=8) && p.aa.all (nV p.ag))=true:=by
   simp only [cd,dd,List.all_eq_true];exact⟨by have:=h.sl;omega,fun x hx=>by obtain⟨i,hi,rfl⟩:=qX hx;exact Gw.mpr (h.src i hi)⟩
  have h2:(decide ((p.ae.length:Int)<=40) && p.ae.all (jF p.ag))=true:=by
   simp only [cd,dd,List.all_eq_true];exact⟨by have:=h.ll;omega,fun x hx=>by obtain⟨i,hi,rfl⟩:=qX hx;exact EK.mpr (h.lnk i hi)⟩
  have h3:(decide ((p.ac.length:Int)<=24) && p.ac.all (j4 p.ag))=true:=by
   simp only [cd,dd,List.all_eq_true];exact⟨by have:=h.rl;omega,fun x hx=>by obtain⟨i,hi,rfl⟩:=qX hx;exact DY.mpr (h.rck i hi)⟩
  rw [h0,h1,h2,h3];rfl
theorem zx {α:Type} [Inhabited α] {ρ:Type} {body:Int->Option (bC Int (Ex Unit ρ))} (l:List α) (hl:l.length<=9223372036854775807) (hb: ∀t:Nat,t<l.length->body (t:Int)=some (.next ((t:Int)+1))) (he:body (l.length:Int)=some (.done (.brk ()))):aI body FUEL 0=some (.brk ()):=
 iK (fun t=>(t:Int)) l.length _ (fuel_lt hl) (fun t ht=>by rw [hb t ht];rfl) he
structure Zb (s:State):Prop where
 l0:s.a_.length<=140737488351232
 l1:s.bh.length<=140737488351232
 l2:s.aq.length<=140737488351232
 l3:s.on_.length<=140737488351232
 l4:s.am.length<=140737488351232
 l5:s.ba.length<=140737488351232
 l6:s.ap.length<=140737488351232
theorem VS.room {p:af} {s:State} (hp:VP p) (h:VS p s):Zb s:=by
 have h1:=hp.ll;have h2:=hp.sl;have h3:=hp.b;obtain⟨a1,a2,a3,a4,a5,a6,a7,_⟩:=h;exact⟨by omega,by omega,by omega,by omega,by omega,by omega,by omega⟩
theorem TW:qL=some true:=by kernel_rfl
theorem JO {c:UInt8} {s:List UInt8} (h:c ∉ s):Lib.index s [c]= -1:=by
 rw [Lib.index_one];induction s with
 |nil=>rfl
 |cons b l ih=>
  have hb:b≠c:=fun e=>h (e ▸ ct);have hl:c ∉ l:=fun e=>h (cm _ e);unfold Lib.indexByte;simp [hb,ih hl]
theorem ND {c:UInt8} {a r:List UInt8} (h:c ∉ a):Lib.index (a++c::r) [c]=(a.length:Int):=by
 rw [Lib.index_one];induction a with
 |nil=>simp [Lib.indexByte]
 |cons b l ih=>
  have hb:b≠c:=fun e=>h (e ▸ ct);have hl:c ∉ l:=fun e=>h (cm _ e);rw [dE,Lib.indexByte,ih hl];have h1: ¬ ((l.length:Int)== -1)=true:=by rw [beq_iff_eq];omega
  have h2: ¬ (b==c)=true:=by rw [beq_iff_eq];exact hb
  rw [ce h2,ce h1];simp
theorem wV {c:UInt8} {a r:List UInt8} (h:c ∉ a):Lib.cut (a++c::r) [c]=(a,r,true):=by
 unfold Lib.cut;rw [ND h,ci (by omega)];simp
theorem wz {c:UInt8} {s:List UInt8} (h:c ∉ s):Lib.cut s [c]=(s,[],false):=by
 unfold Lib.cut;rw [JO h,ce (by omega)]
def aY (c:UInt8):List UInt8->List (List UInt8)
 |[]=>[[]]
 |b::l=>if b=c then []::aY c l else(b::(aY c l).headD [])::(aY c l).tail
theorem nk {c:UInt8}: ∀{s:List UInt8},c ∉ s->aY c s=[s]
 |[],_=>rfl
 |b::l,h=>by
  have hb:b≠c:=fun e=>h (e ▸ ct);have hl:c ∉ l:=fun e=>h (cm _ e);rw [aY,ce hb,nk hl];rfl
theorem lJ {c:UInt8} {r:List UInt8}: ∀{a:List UInt8},c ∉ a->aY c (a++c::r)=a::aY c r
 |[],_=>by rw [cW,aY,ci rfl]
 |b::l,h=>by
  have hb:b≠c:=fun e=>h (e ▸ ct);have hl:c ∉ l:=fun e=>h (cm _ e);rw [dE,aY,ce hb,lJ hl];rfl
theorem Ab (c:UInt8) (s:List UInt8):aY c s≠[]:=by
 cases s with
 |nil=>intro h;cases h
 |cons b l=>rw [aY];split<;>(intro h;cases h)
theorem wN (c:UInt8) {P:List UInt8->Prop} (h0: ∀s,c ∉ s->P s) (h1: ∀a r,c ∉ a->P r->P (a++c::r)): ∀(n:Nat) (s:List UInt8),s.length<=n->P s
 |n,s,hn=>by
  by_cases h:c∈s
  ·obtain⟨a,r,rfl,ha⟩:=List.eq_append_cons_of_mem h
   match n,hn with
   |0,hn=>simp at hn
   |n+1,hn=>exact h1 a r ha (wN c h0 h1 n r (by simp at hn;omega))
  ·exact h0 s h
theorem IZ (s:ByteArray):sb s.data.toList=s:=by
 obtain⟨⟨l⟩⟩:=s;rfl
theorem Cc {a b:List UInt8} (h:sb a=sb b):a=b:=by
 have:=congrArg (fun s:ByteArray=>s.data.toList) h;simpa [sb]using this
theorem bM (l:List UInt8):(sb l).size=l.length:=by simp [sb,ByteArray.size]
theorem tJ (l:List UInt8):(sb l).data.toList=l:=by simp [sb]
theorem GY (c:UInt8): ∀(k:Nat) (s:ByteArray),Lib.countB s ⟨#[c]⟩=k->Lib.splitB ⟨#[c]⟩ 0 k s=(aY c s.data.toList).map sb
 |k,s,hk=>by
  have hcnt:s.data.toList.count c=k:=by
   rw [<-hk];exact(Lib.count_one c _).symm
  by_cases h:c∈s.data.toList
  ·obtain⟨a,r,e,ha⟩:=List.eq_append_cons_of_mem h
   match k,hk,hcnt with
   |0,_,hcnt=>rw [List.count_eq_zero]at hcnt;exact absurd h hcnt
   |k+1,hk,hcnt=>
    have hi:Lib.indexB s ⟨#[c]⟩=((a.length:Nat):Int):=by
     show Lib.index s.data.toList [c]=_;rw [e,ND ha]
    have hsz:s.size=a.length+(1+r.length):=by
     have:=congrArg List.length e;simp at this;omega
    have e1:(s.extract 0 (a.length+0))=sb a:=by
     rw [<-IZ (s.extract 0 (a.length+0)),Lib.extract_data,e];simp
    have e2:(s.extract (a.length+(⟨#[c]⟩:ByteArray).size) s.size)=sb r:=by
     rw [<-IZ (s.extract _ _),Lib.extract_data,e,hsz];have:(⟨#[c]⟩:ByteArray).size=1:=rfl;rw [this];simp only [List.drop_append,List.drop_eq_nil_of_le (show a.length<=a.length+1 by omega),cW];rw [show a.length+1 - a.length=1 by omega,List.drop_one,List.tail_cons,List.take_of_length_le (by omega)]
    rw [Lib.splitB_hit _ _ _ _ _ hi,e1,e2,GY c k (sb r),e,lJ ha,tJ];·rfl
    ·show Lib.count (sb r).data.toList [c]=k;rw [Lib.count_one,tJ];rw [e,List.count_append,List.count_cons_self,List.count_eq_zero.2 ha]at hcnt;omega
  ·have hi:Lib.indexB s ⟨#[c]⟩= -1:=by
    show Lib.index s.data.toList [c]= -1;exact JO h
   rw [Lib.splitB_miss _ _ _ _ hi,nk h,cL,IZ];rfl
 termination_by k=>k
theorem QU {c:UInt8} {s:ByteArray} (hs:s.size<4294967281):jo s ⟨#[c]⟩=some ((aY c s.data.toList).map sb):=by
 unfold jo;rw [bx hs];show some (Lib.splitB _ 0 _ _)=_;rw [GY c _ s rfl]
theorem AP (b:UInt8): ∀(l:List UInt8) (acc:Nat),Lib.decFrom acc (l++[b])=(Lib.decFrom acc l).bind fun n=>(Lib.digitVal b).map fun d=>n*10+d
 |[],acc=>by
  simp only [cW,Lib.decFrom,br];cases Lib.digitVal b<;>rfl
 |x::l,acc=>by
  rw [dE,Lib.decFrom,Lib.decFrom];cases Lib.digitVal x with
  |none=>rfl
  |some d=>exact AP b l _
theorem Kq {u:Nat} (h:u<10):Lib.digitVal (UInt8.ofNat (48+u))=some u:=by
 have e:(UInt8.ofNat (48+u)).toNat=48+u:=by rw [UInt8.toNat_ofNat'];omega
 unfold Lib.digitVal;rw [e,ci ⟨by omega,by omega⟩];congr 1;omega
theorem lT (u:Nat):Lib.decFrom 0 (Lib.decDigits u)=some u:=by
 induction u using Nat.strongRecOn with
 |_ u ih=>
  rw [Lib.decDigits];split
  ·rename_i h;simp only [Lib.decFrom,Kq h,Nat.zero_mul,cC]
  ·rename_i h;rw [AP,ih (u / 10) (by omega),br,Kq (eM _ (by decide))];show some (u / 10*10+u % 10)=some u;congr 1;omega
theorem wO (u:Nat):Lib.decDigits u≠[]:=by
 rw [Lib.decDigits];split;·simp
 ·simp
theorem yX (u:Nat): ∀b,b∈Lib.decDigits u->48<=b.toNat/\b.toNat<=57:=by
 have key: ∀v,v<10->48<=(UInt8.ofNat (48+v)).toNat/\(UInt8.ofNat (48+v)).toNat<=57:=fun v hv=>by
  rw [UInt8.toNat_ofNat'];omega
 induction u using Nat.strongRecOn with
 |_ u ih=>
  intro b hb;rw [Lib.decDigits]at hb;split at hb
  ·rename_i h;rw [cF]at hb;subst hb;exact key u h
  ·rename_i h;rcases cz.1 hb with hb|hb
   ·exact ih (u / 10) (by omega) b hb
   ·rw [cF]at hb;subst hb;exact key _ (eM _ (by decide))
theorem AY: ∀(k u:Nat),u<10 ^ (k+1)->Lib.nDigits u<=k+1
 |0,u,h=>by rw [Lib.nDigits_small (by simpa using h)];omega
 |k+1,u,h=>by
  by_cases h1:u<10;·rw [Lib.nDigits_small h1];omega
  ·rw [Lib.nDigits_big h1];have:=AY k (u / 10) (by rw [Nat.pow_succ]at h;omega);omega
theorem Pv (v:Int):Lib.atoi (Lib.itoa v)=some v:=by
 unfold Lib.itoa;split
 ·rename_i h;show Option.map (fun m:Nat=> -(m:Int)) (Lib.decNat (Lib.decDigits v.natAbs))=some v;rw [Lib.decNat,ce (by simp [wO]),lT];show some (-((v.natAbs:Nat):Int))=some v;congr 1;omega
 ·rename_i h;have hne:=wO v.toNat;have hm:=yX v.toNat;have hd:Lib.decNat (Lib.decDigits v.toNat)=some v.toNat:=by
   rw [Lib.decNat,ce (by simp [hne]),lT]
  cases hl:Lib.decDigits v.toNat with
  |nil=>exact absurd hl hne
  |cons b r=>
   rw [hl]at hm hd;have hb:=hm b ct;have h1: ¬ (b==45)=true:=by rw [beq_iff_eq];intro e;subst e;simp at hb
   have h2: ¬ (b==43)=true:=by rw [beq_iff_eq];intro e;subst e;simp at hb
   unfold Lib.atoi;simp only [h1,h2,if_false,hd,Option.map_some,Bool.false_eq_true];congr 1;omega
theorem QD {v:Int} (h: -999999999<=v/\v<=999999999):(Lib.itoa v).length<=10/\(Lib.trimPrefix (Lib.itoa v) [45]).length<=9:=by
 unfold Lib.itoa;split
 ·have hn:=AY 8 v.natAbs (by omega);have e:Lib.trimPrefix (45::Lib.decDigits v.natAbs) [45]=Lib.decDigits v.natAbs:=by
   unfold Lib.trimPrefix;simp [Lib.hasPrefix]
  rw [e,cX,Lib.decDigits_length];omega
 ·have hn:=AY 8 v.toNat (by omega);have hl:(Lib.decDigits v.toNat).length<=9:=by rw [Lib.decDigits_length];omega
  refine⟨by omega, ?_⟩;unfold Lib.trimPrefix;split;·rw [d8];omega
  ·exact hl
theorem MO {v:Int} (h: -999999999<=v/\v<=999999999):numOf (sb (Lib.itoa v))=some v:=by
 have hl:=QD h;unfold numOf;rw [tJ,Lib.atoiAll_short _ (by omega),Pv];show(bif decide (sb (Lib.itoa v)=sb (Lib.itoa v)) && decide ((Lib.trimPrefix (Lib.itoa v) [45]).length<=9)then some v else none)=some v;rw [bx rfl,bx hl.2];rfl
theorem LG {s:ByteArray} {v:Int} (h:numOf s=some v):s=sb (Lib.itoa v):=by
 unfold numOf at h;split at h
 ·rename_i u hu;cases h1:decide (sb (Lib.itoa u)=s)with
  |false=>rw [h1]at h;cases h
  |true=>
   rw [h1,cP]at h;cases h2:decide ((Lib.trimPrefix s.data.toList [45]).length<=9)with
   |false=>rw [h2]at h;cases h
   |true=>rw [h2]at h;cases h;exact(of_decide_eq_true h1).symm
 ·cases h
theorem dLt {a b:Int} (h:a<b):decide (a<b)=true:=bx h
theorem Um {a b:Int} (h:b<=a):decide (a<b)=false:=bz (by omega)
def Z6 (p:af):Bool:=decide (60<(p.aa.length:Int))||decide (60<(p.ae.length:Int))||decide (60<(p.ac.length:Int))||p.ae.any fun x=>decide (20<(x.trip.length:Int))
structure XK (p:af):Prop where
 src:p.aa.length<=60
 lnk:p.ae.length<=60
 rck:p.ac.length<=60
 trp: ∀x∈p.ae,x.trip.length<=20
theorem aag {p:af} (h:Z6 p=false):XK p:=by
 unfold Z6 at h;simp only [ek,da]at h;obtain⟨⟨⟨h1,h2⟩,h3⟩,h4⟩:=h;rw [c7]at h4;exact⟨by omega,by omega,by omega,fun x hx=>by have:=h4 x hx;simp only [dd]at this;omega⟩
theorem BR (l:List Source) (h:l.length<=1000000):jP l l=some true:=by
 have key:aI (iC l l) FUEL 0=some (.brk ()):=by
  refine zx l (by omega) (fun t ht=> ?_) ?_
  ·unfold iC;rw [dLt (by omega),bt,aJ ⟨by omega,by omega⟩,wr (by omega)];simp
  ·unfold iC;rw [Um (by omega)];rfl
 unfold jP;simp [key]
theorem DW (l:List au) (h:l.length<=1000000):kU l l=some true:=by
 have key:aI (jg l l) FUEL 0=some (.brk ()):=by
  refine zx l (by omega) (fun t ht=> ?_) ?_
  ·unfold jg;rw [dLt (by omega),bt,aJ ⟨by omega,by omega⟩,wr (by omega)];simp
  ·unfold jg;rw [Um (by omega)];rfl
 unfold kU;simp [key]
theorem FQ (x:Link) (h:x.trip.length<=1000000):lV x x=some true:=by
 unfold lV;simp only [decide_true,bt];rw [show gB [(true,true)]=true from rfl,bt,DW _ h];rfl
theorem EP (l:List Link) (h:l.length<=1000000) (ht: ∀x∈l,x.trip.length<=1000000):kW l l=some true:=by
 have key:aI (je l l) FUEL 0=some (.brk ()):=by
  refine zx l (by omega) (fun t hlt=> ?_) ?_
  ·unfold je;rw [dLt (by omega),bt,bw,FQ _ (ht _ (at_mem hlt)),br,aJ ⟨by omega,by omega⟩,wr (by omega)];rfl
  ·unfold je;rw [Um (by omega)];rfl
 unfold kW;simp [key]
theorem Ez (l:List aD) (h:l.length<=1000000):kR l l=some true:=by
 have key:aI (iX l l) FUEL 0=some (.brk ()):=by
  refine zx l (by omega) (fun t ht=> ?_) ?_
  ·unfold iX;rw [dLt (by omega),bt,aJ ⟨by omega,by omega⟩,wr (by omega)];simp
  ·unfold iX;rw [Um (by omega)];rfl
 unfold kR;simp [key]
theorem uR {p:af} (h:XK p):ic p p=some true:=by
 have h1:=h.src;have h2:=h.lnk;have h3:=h.rck;unfold ic;simp only [decide_true,bt];rw [show gB [(true,true)]=true from rfl,bt,BR _ (by omega),br,show gB [(true,true)]=true from rfl,bt,EP _ (by omega) (fun x hx=>by have:=h.trp x hx;omega),br];simp only [bt];rw [show gB [(true,true)]=true from rfl,bt,Ez _ (by omega)];rfl
def fH (w:List UInt8):Option Int:=numOf (sb w)
theorem lu {w:List UInt8} (h:w.length<=1000000):aZ (sb w)=some (fH w):=by
 unfold aZ;rw [bM,bx h];rfl
theorem Qm (a b:List UInt8):bn (sb a) (sb b)=decide (a=b):=by
 unfold bn;rw [Bool.and_true,Bool.eq_iff_iff,db];refine⟨fun h=>Cc (RY h),fun h=> ?_⟩;rw [h];show((sb b).data==(sb b).data)=true;exact beq_self_eq_true _
def nW (a b c:List UInt8) (w:List UInt8):Option Int:=if w=a then some 1 else if w=b then some 2 else if w=c then some 3 else none
def fQ (w:List UInt8):Int:=if w=jG then 1 else if w=jR then 2 else if w=qw then 3 else if w=qj then 4 else 0
theorem TQ {κ α:Type} (eq:κ->κ->Bool) (k k':κ) (v:α) (l:List (κ × α)):bg eq k ((k',v)::l)=bif eq k k' then some v else bg eq k l:=rfl
theorem abZ:kG=some [(sb tQ,1),(sb Cz,2),(sb CG,3)]:=by kernel_rfl
theorem ab0:mr=some [(sb BA,1),(sb BL,2),(sb BN,3)]:=by kernel_rfl
theorem abY:qG=some [(sb jG,1),(sb jR,2),(sb qw,3),(sb qj,4)]:=by kernel_rfl
theorem VZ (a b c w:List UInt8):bg bn (sb w) [(sb a,(1:Int)),(sb b,2),(sb c,3)]=nW a b c w:=by
 simp only [TQ,Qm,bg,nW];by_cases h1:w=a;·rw [bx h1,ci h1];rfl
 ·rw [bz h1,ce h1,bu];by_cases h2:w=b
  ·rw [bx h2,ci h2];rfl
  ·rw [bz h2,ce h2,bu];by_cases h3:w=c
   ·rw [bx h3,ci h3];rfl
   ·rw [bz h3,ce h3];rfl
theorem VH (w:List UInt8):((bg bn (sb w) [(sb jG,(1:Int)),(sb jR,2),(sb qw,3),(sb qj,4)]).isSome= !decide (fQ w=0))/\(bg bn (sb w) [(sb jG,(1:Int)),(sb jR,2),(sb qw,3),(sb qj,4)]).getD 0=fQ w:=by
 simp only [bg,Qm];by_cases h1:w=jG
 ·have e:fQ w=1:=ci h1;rw [e,bx h1];exact⟨rfl,rfl⟩
 ·by_cases h2:w=jR
  ·have e:fQ w=2:=by unfold fQ;rw [ce h1,ci h2]
   rw [e,bz h1,bx h2];exact⟨rfl,rfl⟩
  ·by_cases h3:w=qw
   ·have e:fQ w=3:=by unfold fQ;rw [ce h1,ce h2,ci h3]
    rw [e,bz h1,bz h2,bx h3];exact⟨rfl,rfl⟩
   ·by_cases h4:w=qj
    ·have e:fQ w=4:=by unfold fQ;rw [ce h1,ce h2,ce h3,ci h4]
     rw [e,bz h1,bz h2,bz h3,bx h4];exact⟨rfl,rfl⟩
    ·have e:fQ w=0:=by unfold fQ;rw [ce h1,ce h2,ce h3,ce h4]
     rw [e,bz h1,bz h2,bz h3,bz h4];exact⟨rfl,rfl⟩
theorem Xt (words:List (ByteArray × Int)) (w:ByteArray):jv words w=some (bg bn w words):=by
 unfold jv;cases bg bn w words<;>rfl
theorem W9 (words:List (ByteArray × Int)) (w:ByteArray):gJ words w=some (bg bn w words):=by
 unfold gJ;cases bg bn w words<;>rfl
theorem vT {R:Type} (k:Unit->Option R) (p:Option R):eT (dP true) k p=k ():=rfl
theorem iG {R:Type} (k:Unit->Option R) (p:Option R):eT (dP false) k p=p:=rfl
def Ch (w:List UInt8):Option au:=bif (Lib.cut w [58]).2.2 then(match fH (Lib.cut w [58]).1,fH (Lib.cut w [58]).2.1 with|some a,some m=>some ⟨a,m⟩|_,_=>none)else none
def ji:List (List UInt8)->Option (List au)
 |[]=>some []
 |w::ws=>match Ch w,ji ws with|some t,some l=>some (t::l)|_,_=>none
def qp (R rank:Int) (ws:List (List UInt8)) (p:af):Option (Int × af):=
 if R≠0/\rank<=R/\(1<R↔0<rank)then
  if R=1 then(match ws with|[_,b]=>(fH b).map fun n=>(1,⟨n,p.aa,p.ae,p.ac⟩)|_=>none)
  else if R=2 then(match ws with
   |[_,a,b,c,d,e]=>(match fH a,nW tQ Cz CG b,fH c,fH d,fH e with|some a,some b,some c,some d,some e=>some (2,⟨p.ag,p.aa++[⟨a,b,c,d,e⟩],p.ae,p.ac⟩)|_,_,_,_,_=>none)
   |_=>none)
  else if R=3 then(match ws with
   |_::a::b::c::d::e::ts=>(match fH a,fH b,nW BA BL BN c,fH d,fH e,ji ts with|some a,some b,some c,some d,some e,some l=>some (3,⟨p.ag,p.aa,p.ae++[⟨a,b,c,d,e,l⟩],p.ac⟩)|_,_,_,_,_,_=>none)
   |_=>none)
  else(match ws with
   |[_,a,b,c,d]=>(match fH a,fH b,fH c,fH d with|some a,some b,some c,some d=>some (4,⟨p.ag,p.aa,p.ae,p.ac++[⟨⟨a,b⟩,c,d⟩]⟩)|_,_,_,_=>none)
   |_=>none)
 else none
def xJ (rank:Int) (ws:List (List UInt8)) (p:af):Option (Int × af):=qp (fQ (ws.headD [])) rank ws p
theorem Qz (w:List UInt8) (c:UInt8):(Lib.cut w [c]).1.length<=w.length/\(Lib.cut w [c]).2.1.length<=w.length:=by
 by_cases h:c∈w
 ·obtain⟨a,r,rfl,ha⟩:=List.eq_append_cons_of_mem h;rw [wV ha];simp;omega
 ·rw [wz h];simp
theorem IE {w:List UInt8} {c:UInt8} (h:w.length<4294967281):jA (sb w) ⟨#[c]⟩=some (sb (Lib.cut w [c]).1,sb (Lib.cut w [c]).2.1,(Lib.cut w [c]).2.2):=by
 unfold jA;rw [bM,bx h,tJ];rfl
theorem H7 (r:List ByteArray) (hl:r.length<=1000000): ∀(rest:List (List UInt8)) (t n:Nat) (acc:List au),(∀w∈rest,w.length<=1000000)->(r.drop 6).drop t=rest.map sb->rest.length<n->acc.length+rest.length<=1000000->
  aI (fF r) n (acc,(t:Int))=some (match ji rest with|some l=> .brk (acc++l)|none=> .ret none)
 |[],t,n,acc,_,hd,hn,_=>by
  match n,hn with
  |n+1,_=>
   have hle:r.length - 6<=t:=by
    have:=congrArg List.length hd;simp only [d8,List.map_nil,List.length_nil]at this;omega
   have hb:fF r (acc,(t:Int))=some (.done (.brk acc)):=by
    unfold fF;dsimp only;rw [bz (by omega)];rfl
   rw [aI,hb];show some _=some (Ex.brk (acc++[]));rw [cV]
 |w::rest,t,n,acc,hw,hd,hn,ha=>by
  match n,hn with
  |n+1,hn=>
   have hlt:t<(r.drop 6).length:=by
    rcases Nat.lt_or_ge t (r.drop 6).length with h|h;·exact h
    ·rw [List.drop_eq_nil_of_le h]at hd;cases hd
   have hlt':t<r.length - 6:=by simpa using hlt
   have hat:at' (r.drop 6) t=sb w:=by
    rw [eN hlt,cL]at hd;rw [jd hlt];exact(List.cons.inj hd).1
   have hd':(r.drop 6).drop (t+1)=rest.map sb:=by
    rw [eN hlt,cL]at hd;exact(List.cons.inj hd).2
   have hwl:=hw w ct;have hcl:=Qz w 58;have hal:acc.length+1+rest.length<=1000000:=by simp only [cX]at ha;omega
   have hb:fF r (acc,(t:Int))=some (match Ch w with|some x=> .next (acc++[x],((t+1:Nat):Int))|none=> .done (.ret none)):=by
    unfold fF;dsimp only;rw [bx (by omega),bt,aJ ⟨by omega,by omega⟩,bw,hat,IE (by omega),br];dsimp only;unfold Ch;cases hc:(Lib.cut w [58]).2.2 with
    |false=>rw [iG];rfl
    |true=>
     rw [vT,lu (by omega),lu (by omega),bt];cases fH (Lib.cut w [58]).1 with
     |none=>rfl
     |some a=>
      cases fH (Lib.cut w [58]).2.1 with
      |none=>rfl
      |some m=>
       show aX _ _=_;rw [aJ (by simp only [cw];omega),wr (by omega)];rfl
   rw [aI,hb];unfold ji;cases Ch w with
   |none=>rfl
   |some x=>
    show aI _ n (acc++[x],((t+1:Nat):Int))=_;rw [H7 r hl rest (t+1) n (acc++[x]) (fun v hv=>hw v (cm _ hv)) hd' (by simp at hn;omega) (by simp;omega)];cases ji rest with
    |none=>rfl
    |some l=>simp
theorem pE (c:UInt8) (s:List UInt8):(∀w,w∈aY c s->w.length<=s.length)/\(aY c s).length<=s.length+1:=by
 refine wN c (P:=fun s=>(∀w,w∈aY c s->w.length<=s.length)/\(aY c s).length<=s.length+1) (fun s h=> ?_) (fun a r ha ih=> ?_) s.length s (cx _);·rw [nk h];simp
 ·rw [lJ ha];refine⟨fun w hw=> ?_, ?_⟩
  ·rcases eh.1 hw with rfl|hw
   ·simp
   ·have:=ih.1 w hw;simp;omega
  ·have:=ih.2;simp;omega
theorem wF (w:List UInt8):0<=fQ w/\fQ w<=4:=by
 unfold fQ;split;·omega
 ·split
  ·omega
  ·split
   ·omega
   ·split<;>omega
theorem OV (R rank:Int):(bif (bif (!decide (R=0))then(decide (rank<=R))else false)then((decide (1<R))==(decide (0<rank)))else false)=decide (R≠0/\rank<=R/\(1<R↔0<rank)):=by
 rw [Bool.eq_iff_iff,db];by_cases h0:R=0;·simp [h0]
 ·by_cases h1:rank<=R
  ·simp [h0,h1]
  ·simp [h0,h1]
theorem dU {T R:Type} (y:T) (k:T->Option R) (p:Option R):eT (some (some y)) k p=k y:=rfl
theorem dY {T R:Type} (k:T->Option R) (p:Option R):eT (some none) k p=p:=rfl
structure Rm (p:af):Prop where
 s:p.aa.length<=500000
 l:p.ae.length<=500000
 r:p.ac.length<=500000
set_option maxHeartbeats 1000000 in
theorem M7 (rank:Int) {s:List UInt8} (hs:s.length<=200000) {p:af} (hp:Rm p):om rank (sb s) p=some (xJ rank (aY 32 s) p):=by
 have h1:=pE 32 s;have hne:=Ab 32 s;unfold om;rw [QU (by rw [bM];omega),br,abY,br,tJ];obtain⟨hp1,hp2,hp3⟩:=hp;generalize aY 32 s=ws at h1 hne;obtain⟨hw,hl⟩:=h1;cases ws with
 |nil=>exact absurd rfl hne
 |cons w0 ws=>
  rw [show at' ((w0::ws).map sb) 0=sb w0 from rfl,(VH w0).1,(VH w0).2,aJ (by simp),OV];have hR:=wF w0;have n: ∀w,w∈ws->w.length<=1000000:=fun w h=>dC (hw w (cm _ h)) (by omega);show _=some (qp (fQ w0) rank (w0::ws) p);unfold qp;by_cases hc:fQ w0≠0/\rank<=fQ w0/\(1<fQ w0↔0<rank)
  ·rw [bx hc,vT,ci hc];by_cases r1:fQ w0=1
   ·rw [bx r1,bt,ci r1]
    match ws,n with
    |[],_=>rw [bz (by simp),iG]
    |[b],n=>
     rw [bx (by simp),vT,show at' ([w0,b].map sb) 1=sb b from rfl,lu (n b (by simp))];dsimp only;cases fH b with
     |none=>
      simp only [dU,dY];show aX _ _=_;exact(aJ (by simp) _).trans rfl
     |some v=>
      rw [r1];simp only [dU,dY];show aX _ _=_;exact(aJ (by simp) _).trans rfl
    |b::c::ws,_=>rw [bz (by simp;omega),iG]
   ·rw [bz r1,bu,ce r1];by_cases r2:fQ w0=2
    ·rw [bx r2,bt,ci r2]
     match ws,n with
     |[],_=>rw [bz (by simp),iG]
     |[_],_=>rw [bz (by simp),iG]
     |[_,_],_=>rw [bz (by simp),iG]
     |[_,_,_],_=>rw [bz (by simp),iG]
     |[_,_,_,_],_=>rw [bz (by simp),iG]
     |[a,b,c,d,e],n=>
      rw [bx (by simp),vT,show at' ([w0,a,b,c,d,e].map sb) 1=sb a from rfl,show at' ([w0,a,b,c,d,e].map sb) 2=sb b from rfl,show at' ([w0,a,b,c,d,e].map sb) 3=sb c from rfl,show at' ([w0,a,b,c,d,e].map sb) 4=sb d from rfl,show at' ([w0,a,b,c,d,e].map sb) 5=sb e from rfl,
       lu (n a (by simp)),lu (n c (by simp)),lu (n d (by simp)),lu (n e (by simp)),abZ]
      dsimp only;cases fH a with
      |none=>
       simp only [dU,dY];show aX _ _=_;exact(aJ (by simp) _).trans rfl
      |some a=>
       show eT (jv _ (sb b)) _ _=_;rw [Xt,VZ];cases nW tQ Cz CG b with
       |none=>
        simp only [dU,dY];show aX _ _=_;exact(aJ (by simp) _).trans rfl
       |some b=>
        cases fH c with
        |none=>
         simp only [dU,dY];show aX _ _=_;exact(aJ (by simp) _).trans rfl
        |some c=>
         cases fH d with
         |none=>
          simp only [dU,dY];show aX _ _=_;exact(aJ (by simp) _).trans rfl
         |some d=>
          cases fH e with
          |none=>
           simp only [dU,dY];show aX _ _=_;exact(aJ (by simp) _).trans rfl
          |some e=>
           rw [r2];simp only [dU,dY];show aX _ _=_;exact(aJ (by simp;omega) _).trans rfl
     |_::_::_::_::_::_::ws,_=>rw [bz (by simp;omega),iG]
    ·rw [bz r2,bu,ce r2];by_cases r3:fQ w0=3
     ·rw [bx r3,bt,ci r3]
      match ws,n with
      |[],_=>rw [bz (by simp),iG]
      |[_],_=>rw [bz (by simp),iG]
      |[_,_],_=>rw [bz (by simp),iG]
      |[_,_,_],_=>rw [bz (by simp),iG]
      |[_,_,_,_],_=>rw [bz (by simp),iG]
      |a::b::c::d::e::ts,n=>
       rw [bx (by simp;omega),vT,show at' ((w0::a::b::c::d::e::ts).map sb) 1=sb a from rfl,show at' ((w0::a::b::c::d::e::ts).map sb) 2=sb b from rfl,show at' ((w0::a::b::c::d::e::ts).map sb) 3=sb c from rfl,show at' ((w0::a::b::c::d::e::ts).map sb) 4=sb d from rfl,show at' ((w0::a::b::c::d::e::ts).map sb) 5=sb e from rfl,
        lu (n a (by simp)),lu (n b (by simp)),lu (n d (by simp)),lu (n e (by simp)),ab0]
       dsimp only;have hlt:ts.length<=300000:=by simp at hl;omega
       have ht:=H7 ((w0::a::b::c::d::e::ts).map sb) (by simp;omega) ts 0 FUEL [] (fun w h=>n w (by simp [h])) rfl (by unfold FUEL;omega) (by simp;omega);cases fH a with
       |none=>
        simp only [dU,dY];show aX _ _=_;exact(aJ (by simp;omega) _).trans rfl
       |some a=>
        cases fH b with
        |none=>
         simp only [dU,dY];show aX _ _=_;exact(aJ (by simp;omega) _).trans rfl
        |some b=>
         show eT (gJ _ (sb c)) _ _=_;rw [W9,VZ];cases nW BA BL BN c with
         |none=>
          simp only [dU,dY];show aX _ _=_;exact(aJ (by simp;omega) _).trans rfl
         |some c=>
          cases fH d with
          |none=>
           simp only [dU,dY];show aX _ _=_;exact(aJ (by simp;omega) _).trans rfl
          |some d=>
           cases fH e with
           |none=>
            simp only [dU,dY];show aX _ _=_;exact(aJ (by simp;omega) _).trans rfl
           |some e=>
            simp only [dU];show aX _ (aX _ (Option.bind (aI (fF _) FUEL ([],((0:Nat):Int))) _))=_;rw [aJ (by simp;omega),aJ (by simp;omega),ht];cases ji ts with
            |none=>rfl
            |some l=>
             rw [r3];simp only [dU,dY];show aX _ _=_;exact(aJ (by simp;omega) _).trans rfl
     ·have r4:fQ w0=4:=by omega
      rw [bz r3,bu,ce r3,bx r4,bt]
      match ws,n with
      |[],_=>rw [bz (by simp),iG]
      |[_],_=>rw [bz (by simp),iG]
      |[_,_],_=>rw [bz (by simp),iG]
      |[_,_,_],_=>rw [bz (by simp),iG]
      |[a,b,c,d],n=>
       rw [bx (by simp),vT,show at' ([w0,a,b,c,d].map sb) 1=sb a from rfl,show at' ([w0,a,b,c,d].map sb) 2=sb b from rfl,show at' ([w0,a,b,c,d].map sb) 3=sb c from rfl,show at' ([w0,a,b,c,d].map sb) 4=sb d from rfl,
        lu (n a (by simp)),lu (n b (by simp)),lu (n c (by simp)),lu (n d (by simp))]
       dsimp only;cases fH a with
       |none=>
        simp only [dU,dY];show aX _ _=_;exact(aJ (by simp) _).trans rfl
       |some a=>
        cases fH b with
        |none=>
         simp only [dU,dY];show aX _ _=_;exact(aJ (by simp) _).trans rfl
        |some b=>
         cases fH c with
         |none=>
          simp only [dU,dY];show aX _ _=_;exact(aJ (by simp) _).trans rfl
         |some c=>
          cases fH d with
          |none=>
           simp only [dU,dY];show aX _ _=_;exact(aJ (by simp) _).trans rfl
          |some d=>
           rw [r4];simp only [dU,dY];show aX _ _=_;exact(aJ (by simp;omega) _).trans rfl
      |_::_::_::_::_::ws,_=>rw [bz (by simp;omega),iG]
  ·rw [bz hc,iG,ce hc]
inductive Lines:List UInt8->af->Int->Int->Bool->af->Int->Prop
 |nil (p:af) (n r:Int):Lines [] p n r true p n
 |bad {t:List UInt8} (h0:t≠[]) (h:10 ∉ t) (p:af) (n r:Int):Lines t p n r false p n
 |stop {s t:List UInt8} {p:af} {n r:Int} (h:10 ∉ s) (hl:xJ r (aY 32 s) p=none):Lines (s++10::t) p n r false p n
 |step {s t:List UInt8} {p q e:af} {n m r r':Int} {ok:Bool} (h:10 ∉ s) (hl:xJ r (aY 32 s) p=some (r',q)) (ht:Lines t q (n+1) r' ok e m):Lines (s++10::t) p n r ok e m
theorem GA: ∀(k:Nat) (t:List UInt8) (p:af) (n r:Int),t.length<=k-> ∃ok e m,Lines t p n r ok e m
 |k,t,p,n,r,hk=>by
  by_cases h0:t=[];·subst h0;exact⟨_,_,_, .nil p n r⟩
  ·by_cases h:10∈t
   ·obtain⟨s,u,rfl,hs⟩:=List.eq_append_cons_of_mem h;cases hl:xJ r (aY 32 s) p with
    |none=>exact⟨_,_,_, .stop hs hl⟩
    |some x=>
     obtain⟨r',q⟩:=x
     match k,hk with
     |0,hk=>simp at hk
     |k+1,hk=>
      obtain⟨ok,e,m,hh⟩:=GA k u q (n+1) r' (by simp at hk;omega);exact⟨ok,e,m, .step hs hl hh⟩
   ·exact⟨_,_,_, .bad h0 h p n r⟩
theorem EU: ∀{ts:List (List UInt8)} {l:List au},ji ts=some l->l.length=ts.length
 |[],l,h=>by cases h;rfl
 |w::ws,l,h=>by
  unfold ji at h;cases h1:Ch w with
  |none=>rw [h1]at h;cases h
  |some t=>
   cases h2:ji ws with
   |none=>rw [h1,h2]at h;cases h
   |some l'=>rw [h1,h2]at h;cases h;simp [EU h2]
theorem HY {r r':Int} {ws:List (List UInt8)} {p q:af} (h:xJ r ws p=some (r',q)):
  (r'=1/\ ¬ 0<r/\ ∃w b,ws=[w,b]/\w=jG/\ ∃n,fH b=some n/\q=⟨n,p.aa,p.ae,p.ac⟩)\/
  (r'=2/\0<r/\r<=2/\ ∃w a b c d e,ws=[w,a,b,c,d,e]/\w=jR/\ ∃a' b' c' d' e',fH a=some a'/\nW tQ Cz CG b=some b'/\fH c=some c'/\fH d=some d'/\fH e=some e'/\q=⟨p.ag,p.aa++[⟨a',b',c',d',e'⟩],p.ae,p.ac⟩)\/
  (r'=3/\0<r/\r<=3/\ ∃w a b c d e ts,ws=w::a::b::c::d::e::ts/\w=qw/\ ∃a' b' c' d' e' l,fH a=some a'/\fH b=some b'/\nW BA BL BN c=some c'/\fH d=some d'/\fH e=some e'/\ji ts=some l/\q=⟨p.ag,p.aa,p.ae++[⟨a',b',c',d',e',l⟩],p.ac⟩)\/
  (r'=4/\0<r/\r<=4/\ ∃w a b c d,ws=[w,a,b,c,d]/\w=qj/\ ∃a' b' c' d',fH a=some a'/\fH b=some b'/\fH c=some c'/\fH d=some d'/\q=⟨p.ag,p.aa,p.ae,p.ac++[⟨⟨a',b'⟩,c',d'⟩]⟩):=by
 unfold xJ at h;have hw: ∀w,(fQ w=1->w=jG)/\(fQ w=2->w=jR)/\(fQ w=3->w=qw)/\(fQ w=4->w=qj):=fun w=>by
  unfold fQ;by_cases h1:w=jG;·rw [ci h1];exact⟨fun _=>h1,fun e=>by omega,fun e=>by omega,fun e=>by omega⟩
  ·rw [ce h1];by_cases h2:w=jR
   ·rw [ci h2];exact⟨fun e=>by omega,fun _=>h2,fun e=>by omega,fun e=>by omega⟩
   ·rw [ce h2];by_cases h3:w=qw
    ·rw [ci h3];exact⟨fun e=>by omega,fun e=>by omega,fun _=>h3,fun e=>by omega⟩
    ·rw [ce h3];by_cases h4:w=qj
     ·rw [ci h4];exact⟨fun e=>by omega,fun e=>by omega,fun e=>by omega,fun _=>h4⟩
     ·rw [ce h4];exact⟨fun e=>by omega,fun e=>by omega,fun e=>by omega,fun e=>by omega⟩
 have hR:=wF (ws.headD []);have hv:=hw (ws.headD []);generalize hRe:fQ (ws.headD [])=R at h hR hv;unfold qp at h;by_cases hc:R≠0/\r<=R/\(1<R↔0<r)
 ·rw [ci hc]at h;by_cases r1:R=1
  ·left;rw [ci r1]at h;split at h
   ·rename_i w b;cases hb:fH b with
    |none=>rw [hb]at h;cases h
    |some n=>rw [hb]at h;cases h;exact⟨rfl,by omega,w,b,rfl,hv.1 r1,n,hb,rfl⟩
   ·cases h
  ·right;rw [ce r1]at h;by_cases r2:R=2
   ·left;rw [ci r2]at h;split at h
    ·rename_i w a b c d e;split at h
     ·rename_i a' b' c' d' e' ha hb hc' hd he;cases h;exact⟨rfl,by omega,by omega,w,a,b,c,d,e,rfl,hv.2.1 r2,a',b',c',d',e',ha,hb,hc',hd,he,rfl⟩
     ·cases h
    ·cases h
   ·right;rw [ce r2]at h;by_cases r3:R=3
    ·left;rw [ci r3]at h;split at h
     ·rename_i w a b c d e ts;split at h
      ·rename_i a' b' c' d' e' l ha hb hc' hd he hl;cases h;exact⟨rfl,by omega,by omega,w,a,b,c,d,e,ts,rfl,hv.2.2.1 r3,a',b',c',d',e',l,ha,hb,hc',hd,he,hl,rfl⟩
      ·cases h
     ·cases h
    ·right;rw [ce r3]at h;split at h
     ·rename_i w a b c d;split at h
      ·rename_i a' b' c' d' ha hb hc' hd;cases h;exact⟨rfl,by omega,by omega,w,a,b,c,d,rfl,hv.2.2.2 (by omega),a',b',c',d',ha,hb,hc',hd,rfl⟩
      ·cases h
     ·cases h
 ·rw [ce hc]at h;cases h
structure PO (p:af) (t:List UInt8):Prop where
 s:p.aa.length+t.length<=200000
 l:p.ae.length+t.length<=200000
 r:p.ac.length+t.length<=200000
 x: ∀x∈p.ae,x.trip.length<=200000
theorem PO.rm {p:af} {t:List UInt8} (h:PO p t):Rm p:=⟨by have:=h.s;omega,by have:=h.l;omega,by have:=h.r;omega⟩
theorem PO.step {p q:af} {s t:List UInt8} {r r':Int} (h:PO p (s++10::t)) (hl:xJ r (aY 32 s) p=some (r',q)):PO q t:=by
 have h1:=h.s;have h2:=h.l;have h3:=h.r;have h4:=h.x;simp only [b_,cX]at h1 h2 h3;have hw:=(pE 32 s).2;rcases HY hl with⟨_,_,w,b,_,_,n,_,rfl⟩|⟨_,_,_,w,a,b,c,d,e,_,_,a',b',c',d',e',_,_,_,_,_,rfl⟩|⟨_,_,_,w,a,b,c,d,e,ts,hws,_,a',b',c',d',e',l,_,_,_,_,_,hts,rfl⟩|⟨_,_,_,w,a,b,c,d,_,_,a',b',c',d',_,_,_,_,rfl⟩;·exact⟨by simp only;omega,by simp only;omega,by simp only;omega,h4⟩
 ·exact⟨by simp only [b_,cw];omega,by simp only;omega,by simp only;omega,h4⟩
 ·refine⟨by simp only;omega,by simp only [b_,cw];omega,by simp only;omega,fun x hx=> ?_⟩;rcases cz.1 hx with hx|hx
  ·exact h4 x hx
  ·rw [cF]at hx;subst hx;have:=EU hts;rw [hws]at hw;simp only [cX]at hw;simp only;omega
 ·exact⟨by simp only;omega,by simp only;omega,by simp only [b_,cw];omega,h4⟩
theorem Lines.run {t:List UInt8} {p e:af} {n m r:Int} {ok:Bool} (h:Lines t p n r ok e m): ∀(k:Nat),t.length<k->PO p t->0<=n->n+t.length<=1000000->
  aI bX k (p.ag,p.aa,p.ae,p.ac,sb t,n,r)=some (bif ok then .brk (e.ag,e.aa,e.ae,e.ac,m)else .ret (.inr (e.ag,e.aa,e.ae,e.ac,m))):=by
 induction h with
 |nil p n r=>
  intro k hk _ _ _
  match k,hk with
  |k+1,_=>
   have hb:bX (p.ag,p.aa,p.ae,p.ac,sb [],n,r)=some (.done (.brk (p.ag,p.aa,p.ae,p.ac,n))):=by
    unfold bX;dsimp only;rw [show((⟨#[]⟩:ByteArray))=sb []from rfl,rE,bx rfl];rfl
   rw [aI,hb];rfl
 |bad h0 h p n r=>
  rename_i t;intro k hk hr _ _
  match k,hk with
  |k+1,_=>
   have hr1:=hr.s;have hb:bX (p.ag,p.aa,p.ae,p.ac,sb t,n,r)=some (.done (.ret (.inr (p.ag,p.aa,p.ae,p.ac,n)))):=by
    unfold bX;dsimp only;rw [show((⟨#[]⟩:ByteArray))=sb []from rfl,rE,bz (fun e=>h0 (Cc e)),cE,bt,IE (by omega),br];dsimp only;rw [wz h,iG]
   rw [aI,hb];rfl
 |stop h hl=>
  rename_i s t p n r;intro k hk hr _ _
  match k,hk with
  |k+1,_=>
   have hr1:=hr.s;have hsl:s.length<=200000:=by simp at hr1;omega
   have hb:bX (p.ag,p.aa,p.ae,p.ac,sb (s++10::t),n,r)=some (.done (.ret (.inr (p.ag,p.aa,p.ae,p.ac,n)))):=by
    unfold bX;dsimp only;rw [show((⟨#[]⟩:ByteArray))=sb []from rfl,rE,bz (fun e=>by have:=Cc e;simp at this),cE,bt,IE (by omega),br];dsimp only;rw [wV h,vT,M7 r hsl hr.rm,hl];rfl
   rw [aI,hb];rfl
 |step h hl ht ih=>
  rename_i s t p q e n m r r' ok;intro k hk hr hn hm
  match k,hk with
  |k+1,hk=>
   have hr1:=hr.s;have hsl:s.length<=200000:=by simp at hr1;omega
   have hb:bX (p.ag,p.aa,p.ae,p.ac,sb (s++10::t),n,r)=some (.next (q.ag,q.aa,q.ae,q.ac,sb t,n+1,r')):=by
    unfold bX;dsimp only;rw [show((⟨#[]⟩:ByteArray))=sb []from rfl,rE,bz (fun e=>by have:=Cc e;simp at this),cE,bt,IE (by omega),br];dsimp only;rw [wV h,vT,M7 r hsl hr.rm,hl,wr (by omega)];rfl
   rw [aI,hb];simp only [b_,cX]at hk hm;exact ih k (by omega) (hr.step hl) (by omega) (by omega)
def E1:af:=⟨0,[],[],[]⟩
def uY (ok:Bool) (e:af) (n:Int):af × Int × Int:=
 if ok=true/\0<n then(if oL e=0 then(e,0,0)else(E1,n,oL e))else(E1,n,3)
theorem Lines.rn {t:List UInt8} {p e:af} {n m r:Int} {ok:Bool} (h:Lines t p n r ok e m):PO p t->PO e []:=by
 have key: ∀{p:af} {t:List UInt8},PO p t->PO p []:=fun{p t} h=> ⟨by have:=h.s;simp;omega,by have:=h.l;simp;omega,by have:=h.r;simp;omega,h.x⟩;induction h with
 |nil p n r=>exact key
 |bad h0 h p n r=>exact key
 |stop h hl=>exact key
 |step h hl ht ih=>exact fun hr=>ih (hr.step hl)
theorem KL {t:List UInt8} (ht:t.length<=131072) {ok:Bool} {e:af} {n:Int} (h:Lines t E1 0 0 ok e n):dX (sb t)=some (uY ok e n):=by
 have hr:PO E1 t:=⟨by show 0+_<=_;omega,by show 0+_<=_;omega,by show 0+_<=_;omega,fun x hx=>by cases hx⟩;have hrun:=h.run FUEL (by unfold FUEL;omega) hr (by omega) (by omega);have he:=h.rn hr;unfold dX;rw [bM,bz (by omega),bu];have hlines:nD (sb t)=some (e,n,ok && decide (0<n)):=by
  unfold nD;show Option.bind (Option.bind (aI bX FUEL (E1.ag,E1.aa,E1.ae,E1.ac,sb t,0,0)) _) _=_;rw [hrun];cases ok<;>rfl
 rw [hlines,br];unfold uY;dsimp only;cases ok with
 |false=>rfl
 |true=>
  rw [cP];by_cases hn:0<n
  ·rw [bx hn,cD,bu,ci ⟨rfl,hn⟩];have hs:Small e:=⟨by have:=he.s;omega,by have:=he.l;omega,by have:=he.r;omega,fun x hx=>by have:=he.x x hx;omega⟩;rw [SE e hs,br];by_cases hc:oL e=0
   ·rw [bx hc,cD,bu,ci hc]
   ·rw [bz hc,cE,bt,ce hc];rfl
  ·rw [bz hn,cE,bt,ce (fun h=>hn h.2)];rfl
theorem Fg (a b:Bool):(bif a then true else b)=(a||b):=by cases a<;>rfl
theorem TH (a b:Bool):(bif a then b else false)=(a && b):=by cases a<;>rfl
theorem yB (n a b:Int):(decide (n<a)||decide (b<n))= !wi n a b:=by
 unfold wi;by_cases h1:a<=n<;>by_cases h2:n<=b<;>simp [h1,h2]<;>omega
theorem Lm (x:Link) (hx:x.trip.length<=9223372036854775807):aI (kQ x) FUEL 0=some (match(List.range x.trip.length).find? (jS x.trip)with|some _=> .ret false|none=> .brk ()):=by
 refine nX x.trip.length (jS x.trip) (fun _=>false) hx (fun i hi=> ?_) ?_
 ·have h1:decide ((i:Int)<(x.trip.length:Int))=true:=bx (by omega);unfold kQ;simp only [bw];rw [h1,bt,aJ (by omega)];simp only [Fg];rw [yB,Bool.or_assoc,yB];unfold jS;by_cases h0:0<i
  ·have hd:decide ((0:Int)<(i:Int))=true:=bx (by omega);rw [wr (show -9223372036854775808<=(i:Int) - 1/\(i:Int) - 1<=9223372036854775807 by omega),Np _ _ h0,aJ ⟨fun _=>by omega,fun _=>by omega⟩,hd,wr (by omega),bx h0];generalize wi (at' x.trip i).bp 1 1000000=b1;generalize wi (at' x.trip i).bj 1 100000=b2;generalize decide ((at' x.trip i).bp<=(at' x.trip (i - 1)).bp)=b3;generalize decide ((at' x.trip (i - 1)).bj<=(at' x.trip i).bj)=b4;cases b1<;>cases b2<;>cases b3<;>cases b4<;>rfl
  ·have hi0:i=0:=by omega
   subst hi0;rw [aJ ⟨fun h=>by simp [gB]at h,fun h=>by simp [gB]at h⟩];generalize wi (at' x.trip 0).bp 1 1000000=b1;generalize wi (at' x.trip 0).bj 1 100000=b2;cases b1<;>cases b2<;>rfl
 ·have h1:decide ((x.trip.length:Int)<(x.trip.length:Int))=false:=bz (by omega);unfold kQ;rw [h1];rfl
theorem Ul (n a b:Int):(decide (n<a)||decide (b<=n))= !wi n a (b - 1):=by
 rw [<-yB];congr 1;exact decide_eq_decide.mpr (by omega)
theorem EM (n a b:Int) (c:Bool):(decide (n<a)||(decide (b<=n)||c))=(!wi n a (b - 1)||c):=by rw [<-Bool.or_assoc,Ul]
theorem Le (p:af) (x:Link) (hx:x.trip.length<=9223372036854775807):ou p x=some (jF p.ag x):=by
 unfold ou jF;rw [Lm x hx];simp only [Fg,TH,Bool.or_assoc,yB,EM];generalize wi x.a 0 (p.ag - 1)=b1;generalize wi x.b 0 (p.ag - 1)=b2;generalize wi x.kind 1 3=b4;generalize wi x.most 1 100000=b5;generalize wi x.ohm 10 100000=b6;have:(List.range x.trip.length).any (jS x.trip)=((List.range x.trip.length).find? (jS x.trip)).isSome:=(Dp _ _).symm;rw [this];have e6:decide ((x.trip.length:Int)<=6)= !decide (6<(x.trip.length:Int)):=by
  by_cases h:(x.trip.length:Int)<=6<;>simp [h]<;>omega
 have e0:decide ((x.trip.length:Int)=0)= !decide (0<(x.trip.length:Int)):=by
  rw [<-decide_not];exact decide_eq_decide.mpr (by omega)
 rw [e6,e0];generalize decide (6<(x.trip.length:Int))=b7;generalize decide (0<(x.trip.length:Int))=b8;generalize decide (x.kind=3)=b9;generalize decide (x.a=x.b)=b3;cases(List.range x.trip.length).find? (jS x.trip)<;>cases b1<;>cases b2<;>cases b3<;>cases b4<;>cases b5<;>cases b6<;>cases b7<;>cases b8<;>cases b9<;>rfl
theorem NV (p:af) (hl:p.aa.length<=9223372036854775807):aI (kC p) FUEL 0=some (match(List.range p.aa.length).find? (fun i=> !nV p.ag (at' p.aa i))with|some _=> .ret 11|none=> .brk ()):=by
 refine nX p.aa.length _ (fun _=>11) hl (fun i hi=> ?_) ?_
 ·have h1:decide ((i:Int)<(p.aa.length:Int))=true:=bx (by omega);unfold kC;simp only [bw];rw [h1,bt,aJ (by omega),wr (by omega)];simp only [Fg,Bool.or_assoc,yB,EM];unfold nV;generalize wi (at' p.aa i).bus 0 (p.ag - 1)=b1;generalize wi (at' p.aa i).kind 1 3=b2;generalize wi (at' p.aa i).power 1 100000=b3;generalize wi (at' p.aa i).bk 0 8=b4;generalize wi (at' p.aa i).ohm 10 100000=b5;cases b1<;>cases b2<;>cases b3<;>cases b4<;>cases b5<;>rfl
 ·have h1:decide ((p.aa.length:Int)<(p.aa.length:Int))=false:=bz (by omega);unfold kC;rw [h1];rfl
theorem JK (p:af) (hl:p.ae.length<=9223372036854775807) (ht: ∀x∈p.ae,x.trip.length<=9223372036854775807):aI (kE p) FUEL 0=some (match(List.range p.ae.length).find? (fun i=> !jF p.ag (at' p.ae i))with|some _=> .ret 12|none=> .brk ()):=by
 refine nX p.ae.length _ (fun _=>12) hl (fun i hi=> ?_) ?_
 ·have h1:decide ((i:Int)<(p.ae.length:Int))=true:=bx (by omega);unfold kE;simp only [bw];rw [h1,bt,Le p _ (ht _ (at_mem hi)),br,aJ (by omega),wr (by omega)];exact Rf _ _ _
 ·have h1:decide ((p.ae.length:Int)<(p.ae.length:Int))=false:=bz (by omega);unfold kE;rw [h1];rfl
theorem KE (p:af) (hl:p.ac.length<=9223372036854775807):aI (kD p) FUEL 0=some (match(List.range p.ac.length).find? (fun i=> !j4 p.ag (at' p.ac i))with|some _=> .ret 13|none=> .brk ()):=by
 refine nX p.ac.length _ (fun _=>13) hl (fun i hi=> ?_) ?_
 ·have h1:decide ((i:Int)<(p.ac.length:Int))=true:=bx (by omega);unfold kD;simp only [bw];rw [h1,bt,aJ (by omega),wr (by omega)];simp only [Fg,Bool.or_assoc,yB,EM];unfold j4 rA;by_cases h:(at' p.ac i).aw.e1= -1
  ·rw [bx h,bt,ci h];generalize wi (at' p.ac i).aw.e0 0 (p.ag - 1)=b1;generalize wi (at' p.ac i).aw.e1 (-1) (p.ag - 1)=b2;generalize wi (at' p.ac i).power 1 100000=b3;generalize wi (at' p.ac i).bi 0 1=b4;generalize decide ((at' p.ac i).aw.e0=(at' p.ac i).aw.e1)=b5;cases b1<;>cases b2<;>cases b3<;>cases b4<;>cases b5<;>rfl
  ·rw [bz h,bu,ce h];generalize wi (at' p.ac i).aw.e0 0 (p.ag - 1)=b1;generalize wi (at' p.ac i).aw.e1 (-1) (p.ag - 1)=b2;generalize wi (at' p.ac i).power 1 100000=b3;generalize wi (at' p.ac i).bi 0 2=b4;generalize decide ((at' p.ac i).aw.e0=(at' p.ac i).aw.e1)=b5;cases b1<;>cases b2<;>cases b3<;>cases b4<;>cases b5<;>rfl
 ·have h1:decide ((p.ac.length:Int)<(p.ac.length:Int))=false:=bz (by omega);unfold kD;rw [h1];rfl
theorem ER {α:Type} [Inhabited α] (l:List α) (ok:α->Bool):((List.range l.length).find? fun i=> !ok (at' l i)).isNone=l.all ok:=by
 cases h:(List.range l.length).find? fun i=> !ok (at' l i)with
 |none=>
  rw [List.find?_eq_none]at h;symm;rw [Option.isNone_none,List.all_eq_true];intro x hx;obtain⟨i,hi,e⟩:=qX hx;have:=h i (List.mem_range.mpr hi);rw [e]at this;simpa using this
 |some k=>
  rw [List.find?_range_eq_some]at h;obtain⟨h1,h2,_⟩:=h;rw [cY]at h2;symm;rw [Option.isNone_some,List.all_eq_false];exact⟨_,at_mem h2,by simpa using h1⟩
theorem JG (p:af) (hp:Small p):fe p=some (oL p):=by
 unfold fe oL;rw [NV p hp.src,JK p hp.lnk hp.trp,KE p hp.rck];rw [<-ER p.aa,<-ER p.ae,<-ER p.ac];simp only [Fg,yB];have e1:decide (8<(p.aa.length:Int))= !decide ((p.aa.length:Int)<=8):=by
  by_cases h:(p.aa.length:Int)<=8<;>simp [h]<;>omega
 have e2:decide (40<(p.ae.length:Int))= !decide ((p.ae.length:Int)<=40):=by
  by_cases h:(p.ae.length:Int)<=40<;>simp [h]<;>omega
 have e3:decide (24<(p.ac.length:Int))= !decide ((p.ac.length:Int)<=24):=by
  by_cases h:(p.ac.length:Int)<=24<;>simp [h]<;>omega
 rw [e1,e2,e3];generalize wi p.ag 1 24=b1;generalize decide ((p.aa.length:Int)<=8)=b2;generalize decide ((p.ae.length:Int)<=40)=b3;generalize decide ((p.ac.length:Int)<=24)=b4;cases(List.range p.aa.length).find? (fun i=> !nV p.ag (at' p.aa i))<;>cases(List.range p.ae.length).find? (fun i=> !jF p.ag (at' p.ae i))<;>cases(List.range p.ac.length).find? (fun i=> !j4 p.ag (at' p.ac i))<;>
  cases b1<;>cases b2<;>cases b3<;>cases b4<;>rfl
theorem gy (ws:List (List UInt8)) {j:Nat} (hj:j<ws.length):at' (ws.map sb) j=sb (at' ws j):=by
 rw [jd (by simpa using hj),jd hj,List.getElem_map]
theorem MN (l:List UInt8):(⟨l.toArray⟩:ByteArray)=sb l:=rfl
theorem wW (a b:List UInt8):aA (sb a) (sb b)=sb (a++b):=by
 unfold aA sb;apply ByteArray.ext;simp [ByteArray.data_append]
theorem ql (l:List UInt8) (i j:Nat):bD (sb l) i j=sb ((l.take j).drop i):=by
 unfold bD sb;apply ByteArray.ext;simp [ByteArray.data_extract,List.extract_eq_take_drop,List.drop_take]
theorem Pq (l:List UInt8):dH (sb l)=l.map fun b=>(b.toNat:Int):=by
 unfold dH;rw [tJ]
theorem vH {l:List UInt8} {i:Nat} (h:i<l.length):at' (dH (sb l)) i=((at' l i).toNat:Int):=by
 rw [Pq,jd (by simpa using h),jd h,List.getElem_map]
theorem zT (n:Int):qo [n]=sb [UInt8.ofNat n.toNat]:=rfl
theorem EC (a b:List UInt8):((sb a).toList==(sb b).toList)=decide (a=b):=by
 rw [rE];exact decide_eq_decide.mpr ⟨Cc,fun h=>by rw [h]⟩
theorem Jk {d:Int} (h:0<=d/\d<=9):(([IntKind.wrap .u8 (IntKind.wrap .i64 (48+d))].map (DV.int .u8)).all qi=true)/\IntKind.wrap .u8 (IntKind.wrap .i64 (48+d))=48+d:=by
 have e:IntKind.wrap .u8 (IntKind.wrap .i64 (48+d))=48+d:=by
  rw [wr (by omega)];show(48+d) % 256=48+d;omega
 refine⟨?_,e⟩;rw [e];show(decide (0<=48+d/\48+d<=255) && true)=true;rw [bx (by omega)];rfl
theorem RO {u:Nat} (hu:0<u/\u<=9000000000) {k:Int} (hk:k=(u:Int)\/k= -(u:Int)) {acc:List UInt8} (ha:acc.length<=1000):
  ∃k':Int,gG (sb acc,k)=some (.next (sb (UInt8.ofNat (48+u % 10)::acc),k'))/\(k'=((u / 10:Nat):Int)\/k'= -((u / 10:Nat):Int)):=by
 have ht:Int.tmod k 10=((u % 10:Nat):Int)\/Int.tmod k 10= -((u % 10:Nat):Int):=by
  rcases hk with rfl|rfl;·left;rfl
  ·right;rw [Int.neg_tmod];rfl
 have hq:Int.tdiv k 10=((u / 10:Nat):Int)\/Int.tdiv k 10= -((u / 10:Nat):Int):=by
  rcases hk with rfl|rfl;·left;rfl
  ·right;rw [Int.neg_tdiv];rfl
 have hm:u % 10<10:=eM _ (by decide);have hne: ¬ k=0:=by omega
 refine⟨Int.tdiv k 10, ?_,hq⟩;unfold gG;dsimp only;rw [bz hne,cE,bt,aJ (by decide)];have hw:IntKind.wrap .i64 (Int.tdiv k 10)=Int.tdiv k 10:=wr (by omega);by_cases hs:Int.tmod k 10<0
 ·have e:IntKind.wrap .i64 (0 - Int.tmod k 10)=((u % 10:Nat):Int):=by rw [wr (by omega)];omega
  rw [bx hs,bt,e];obtain⟨c1,c2⟩:=Jk (d:=((u % 10:Nat):Int)) (by omega);rw [aJ ⟨c1,by rw [zT,bM,bM,cw];omega⟩,aJ (by decide),hw,c2,zT,wW,show((48:Int)+((u % 10:Nat):Int)).toNat=48+u % 10 by omega];rfl
 ·have e:Int.tmod k 10=((u % 10:Nat):Int):=by omega
  rw [bz hs,bu,e];obtain⟨c1,c2⟩:=Jk (d:=((u % 10:Nat):Int)) (by omega);rw [aJ ⟨c1,by rw [zT,bM,bM,cw];omega⟩,aJ (by decide),hw,c2,zT,wW,show((48:Int)+((u % 10:Nat):Int)).toNat=48+u % 10 by omega];rfl
theorem UH (acc:List UInt8) (n:Nat):aI gG (n+1) (sb acc,0)=some (.brk (sb acc)):=by
 rw [aF];rfl
theorem UI (u:Nat): ∀(k:Int) (acc:List UInt8) (n:Nat),0<u/\u<=9000000000->(k=(u:Int)\/k= -(u:Int))->acc.length+Lib.nDigits u<=1000->Lib.nDigits u<n->
  aI gG n (sb acc,k)=some (.brk (sb (Lib.decDigits u++acc))):=by
 induction u using Nat.strongRecOn with
 |_ u ih=>
  intro k acc n hu hk ha hn
  match n,hn with
  |n+1,hn=>
  obtain⟨k',h1,h2⟩:=RO hu hk (acc:=acc) (by omega);rw [aF,h1];dsimp only;by_cases h:u<10
  ·have hk':k'=0:=by rw [Nat.div_eq_of_lt h]at h2;omega
   have:=Lib.nDigits_small h;obtain⟨n,rfl⟩: ∃m,n=m+1:=⟨n - 1,by omega⟩;rw [hk',UH,Lib.decDigits,dif_pos h,Nat.mod_eq_of_lt h];rfl
  ·have hd:=Lib.nDigits_big h;rw [ih (u / 10) (by omega) k' _ n (by omega) h2 (by rw [cX];omega) (by omega)]
   conv=>rhs;rw [Lib.decDigits,dif_neg h]
   rw [cQ];rfl
theorem QT {u:Nat} (h:u<=9000000000):Lib.nDigits u<=10:=AY 9 u (by omega)
theorem Em {v:Int} (h: -9000000000<=v/\v<=9000000000):aU v=some (sb (Lib.itoa v)):=by
 unfold aU;by_cases h0:v=0
 ·subst h0;rw [bx rfl,bt];unfold Lib.itoa;rw [ce (by omega),Lib.decDigits,dif_pos (by decide)];rfl
 ·have hd:=QT (u:=v.natAbs) (by omega);have hrun:=UI v.natAbs v [] FUEL (by omega) (by omega) (by simp;omega) (by unfold FUEL;omega);rw [bz h0,bu,show((⟨#[]⟩:ByteArray))=sb []from rfl,hrun,cV];show(bif decide (v<0)then aX ((⟨#[45]⟩:ByteArray).size+(sb (Lib.decDigits v.natAbs)).size<=9223372036854775807) (some (aA ⟨#[45]⟩ (sb (Lib.decDigits v.natAbs))))else some (sb (Lib.decDigits v.natAbs)))=_;unfold Lib.itoa;by_cases hs:v<0
  ·rw [bx hs,bt,ci hs,show((⟨#[45]⟩:ByteArray))=sb [45]from rfl,wW,aJ]
   ·rfl
   ·rw [bM,bM,Lib.decDigits_length,cw];omega
  ·rw [bz hs,bu,ce hs,show v.natAbs=v.toNat by omega]
theorem P7 {d:List UInt8} {i:Nat} (hi:i<d.length) (hl:d.length<=9) {n:Nat} (hn:n<1000000000):
  d9 (sb d) ((n:Int),(i:Int))=some (match Lib.digitVal (at' d i)with|some q=> .next (((n*10+q:Nat):Int),((i+1:Nat):Int))|none=> .done (.ret (0,false))):=by
 unfold d9;dsimp only;have hu:=(at' d i).toNat_lt;rw [bM,bx (by omega),bt,bw,vH hi,aJ ⟨by omega,fun _=>by omega⟩,aJ (by omega)];unfold Lib.digitVal;by_cases h1:(at' d i).toNat<48;·rw [bx (by omega),bt,ce (by omega)];rfl
 ·rw [bz (by omega),bu];by_cases h2:57<(at' d i).toNat
  ·rw [bx (by omega),bt,ce (by omega)]
  ·rw [bz (by omega),bu,ci (by omega),wr (x:=10*(n:Int)) (by omega),wr (x:=((at' d i).toNat:Int)) (by omega),wr (x:=10*(n:Int)+((at' d i).toNat:Int)) (by omega),wr (x:=_ - 48) (by omega),wr (by omega)];show some (bC.next (_,_))=some (bC.next (_,_));rw [show(10*(n:Int)+((at' d i).toNat:Int) - 48)=((n*10+((at' d i).toNat - 48):Nat):Int) by omega];rfl
theorem M6 {d:List UInt8} (hl:d.length<=9): ∀(r:List UInt8) (i n k:Nat),d.drop i=r->r.length<k->n<10 ^ i->i<=d.length->
  aI (d9 (sb d)) k ((n:Int),(i:Int))=some (match Lib.decFrom n r with|some m=> .brk (m:Int)|none=> .ret (0,false))
 |[],i,n,k,hd,hk,hn,hi=>by
  match k,hk with
  |k+1,_=>
  have hle:d.length<=i:=by
   rcases Nat.lt_or_ge i d.length with h|h;·rw [eN h]at hd;cases hd
   ·exact h
  rw [aF];unfold d9;dsimp only;rw [bM,bz (by omega)];rfl
 |b::r,i,n,k,hd,hk,hn,hi=>by
  match k,hk with
  |k+1,hk=>
  have hlt:i<d.length:=by
   rcases Nat.lt_or_ge i d.length with h|h;·exact h
   ·rw [List.drop_eq_nil_of_le h]at hd;cases hd
  have hd2:=hd;rw [eN hlt]at hd2;obtain⟨e1,e2⟩:=List.cons.inj hd2;have hp:10 ^ i<=10 ^ 8:=Nat.pow_le_pow_right (by decide) (by omega);rw [aF,P7 hlt hl (by omega),jd hlt,e1,Lib.decFrom];cases hq:Lib.digitVal b with
  |none=>rfl
  |some q=>
   have hq9:q<=9:=by
    unfold Lib.digitVal at hq;split at hq;·cases hq;omega
    ·cases hq
   simp only [cX]at hk;exact M6 hl r (i+1) (n*10+q) k e2 (by omega) (by rw [Nat.pow_succ];omega) (by omega)
theorem KY {d:List UInt8} (hl:d.length<=9):aI (d9 (sb d)) FUEL (0,0)=some (match Lib.decFrom 0 d with|some m=> .brk (m:Int)|none=> .ret (0,false)):=
 M6 hl d 0 0 FUEL rfl (by unfold FUEL;omega) (by decide) (by omega)
theorem wL: ∀(d:List UInt8) (n i m:Nat),n<10 ^ i->Lib.decFrom n d=some m->m<10 ^ (i+d.length)
 |[],n,i,m,hn,h=>by cases h;simpa using hn
 |b::d,n,i,m,hn,h=>by
  rw [Lib.decFrom]at h;cases hq:Lib.digitVal b with
  |none=>rw [hq]at h;cases h
  |some q=>
   have hq9:q<=9:=by
    unfold Lib.digitVal at hq;split at hq;·cases hq;omega
    ·cases hq
   rw [hq]at h;have:=wL d (n*10+q) (i+1) m (by rw [Nat.pow_succ];omega) h;rw [cX,show i+(d.length+1)=i+1+d.length by omega];exact this
def EI (neg:Bool) (l d:List UInt8):Int × Bool:=
 if d.length<1\/9<d.length then(0,false)else match Lib.decFrom 0 d with
 |some m=>(bif neg then -(m:Int)else(m:Int),decide (Lib.itoa (bif neg then -(m:Int)else(m:Int))=l))
 |none=>(0,false)
def rq:List UInt8->Int × Bool
 |[]=>(0,false)
 |b::d=>if b=45 then EI true (b::d) d else EI false (b::d) (b::d)
theorem Hz (n:Nat):(bif decide ((n:Int)<1)then true else decide (9<(n:Int)))=decide (n<1\/9<n):=by
 rw [Bool.eq_iff_iff,db];by_cases h:(n:Int)<1;·simp [h];omega
 ·simp [h];omega
theorem QO (s:ByteArray):qA s=d9 (bD s 1 s.size):=rfl
theorem number_eq (l:List UInt8):iM (sb l)=some (rq l):=by
 unfold iM;cases l with
 |nil=>rfl
 |cons b d=>
  have e1:bD (sb (b::d)) 1 (sb (b::d)).size=sb d:=by
   rw [ql,bM,d_];rfl
  rw [QO,e1];have hs:(sb (b::d)).size=d.length+1:=by rw [bM,cX]
  rw [hs,bx (by omega),bt,aJ (fun _=>by omega)];have ha:at' (dH (sb (b::d))) 0=(b.toNat:Int):=vH (l:=b::d) (i:=0) (by simp);rw [ha];unfold rq;dsimp only;by_cases hb:b=45
  ·subst hb;rw [ci rfl,bx (by rfl),bt,aJ (by omega),bM,Hz];unfold EI;by_cases hc:d.length<1\/9<d.length
   ·rw [bx hc,bt,ci hc]
   ·rw [bz hc,bu,ce hc,KY (by omega)];cases hd:Lib.decFrom 0 d with
    |none=>rfl
    |some m=>
     have hm:=wL d 0 0 m (by decide) hd;have hm2:10 ^ (0+d.length)<=10 ^ 9:=Nat.pow_le_pow_right (by decide) (by omega);show(bif (!((sb d).toList==(sb (45::d)).toList))then _ else _)=_;rw [EC,bz (fun e=>by have:=congrArg List.length e;simp at this),cE,bt,wr (x:=0 - (m:Int)) (by omega),Em (by omega),br,EC,show 0 - (m:Int)= -(m:Int) by omega];rfl
  ·have hbn: ¬ ((b.toNat:Int)=45):=fun e=>hb (UInt8.toNat.inj (by show b.toNat=45;omega));rw [ce hb,bz hbn,bu,Hz];unfold EI;rw [cX];by_cases hc:d.length+1<1\/9<d.length+1
   ·rw [bx hc,bt,ci hc]
   ·rw [bz hc,bu,ce hc,KY (by rw [cX];omega)];cases hd:Lib.decFrom 0 (b::d)with
    |none=>rfl
    |some m=>
     have hm:=wL (b::d) 0 0 m (by decide) hd;have hm2:10 ^ (0+(b::d).length)<=10 ^ 9:=Nat.pow_le_pow_right (by decide) (by rw [cX];omega);show(bif (!((sb (b::d)).toList==(sb (b::d)).toList))then _ else _)=_;rw [EC,bx rfl,cD,bu,Em (by omega),br,EC];rfl
theorem Lv {l:List UInt8} (h:(rq l).2=true):l=Lib.itoa (rq l).1/\ -999999999<=(rq l).1/\(rq l).1<=999999999:=by
 have key: ∀(neg:Bool) (d:List UInt8),(EI neg l d).2=true->l=Lib.itoa (EI neg l d).1/\ -999999999<=(EI neg l d).1/\(EI neg l d).1<=999999999:=fun neg d h=>by
  unfold EI at h ⊢;by_cases hc:d.length<1\/9<d.length;·rw [ci hc]at h;cases h
  ·rw [ce hc]at h ⊢;cases hd:Lib.decFrom 0 d with
   |none=>rw [hd]at h;cases h
   |some m=>
    rw [hd]at h;have hm:=wL d 0 0 m (by decide) hd;have hm2:10 ^ (0+d.length)<=10 ^ 9:=Nat.pow_le_pow_right (by decide) (by omega);refine⟨(of_decide_eq_true h).symm, ?_⟩;dsimp only;cases neg;·simp only [bu];omega
    ·simp only [bt];omega
 unfold rq at h ⊢;cases l with
 |nil=>cases h
 |cons b d=>
  dsimp only at h ⊢;by_cases hb:b=45;·rw [ci hb]at h ⊢;exact key _ _ h
  ·rw [ce hb]at h ⊢;exact key _ _ h
theorem OL {v:Int} (h: -999999999<=v/\v<=999999999):rq (Lib.itoa v)=(v,true):=by
 have hdl: ∀u:Nat,u<=999999999->1<=(Lib.decDigits u).length/\(Lib.decDigits u).length<=9:=fun u hu=>by
  have:=AY 8 u (by omega);have:=Lib.nDigits_pos u;rw [Lib.decDigits_length];omega
 by_cases hs:v<0
 ·have e:Lib.itoa v=45::Lib.decDigits v.natAbs:=by unfold Lib.itoa;rw [ci hs]
  have hl:=hdl v.natAbs (by omega);rw [e];unfold rq;dsimp only;rw [ci rfl];unfold EI;rw [ce (by omega),lT];dsimp only;rw [bt,show -((v.natAbs:Nat):Int)=v by omega,e,bx rfl]
 ·have e:Lib.itoa v=Lib.decDigits v.toNat:=by unfold Lib.itoa;rw [ce hs]
  have hl:=hdl v.toNat (by omega);have hm:=yX v.toNat;have hf:=lT v.toNat;rw [e];cases hd:Lib.decDigits v.toNat with
  |nil=>exact absurd hd (wO _)
  |cons b d=>
   rw [hd]at hm hl hf e;have hb:=hm b ct;unfold rq;dsimp only;rw [ce (fun e=>by subst e;simp at hb)];unfold EI;rw [ce (by omega),hf];dsimp only;rw [bu,show((v.toNat:Nat):Int)=v by omega,e,bx rfl]
theorem Mw {v:Int} (h:(Lib.trimPrefix (Lib.itoa v) [45]).length<=9): -999999999<=v/\v<=999999999:=by
 have hp: ∀u:Nat,Lib.nDigits u<=9->u<1000000000:=fun u hu=>by
  have h1:=Lib.lt_pow_nDigits u;have h2:10 ^ Lib.nDigits u<=10 ^ 9:=Nat.pow_le_pow_right (by decide) hu;omega
 by_cases hs:v<0
 ·have e:Lib.itoa v=45::Lib.decDigits v.natAbs:=by unfold Lib.itoa;rw [ci hs]
  have e2:Lib.trimPrefix (45::Lib.decDigits v.natAbs) [45]=Lib.decDigits v.natAbs:=by
   unfold Lib.trimPrefix;simp [Lib.hasPrefix]
  rw [e,e2,Lib.decDigits_length]at h;have:=hp _ h;omega
 ·have e:Lib.itoa v=Lib.decDigits v.toNat:=by unfold Lib.itoa;rw [ce hs]
  have e2:Lib.trimPrefix (Lib.decDigits v.toNat) [45]=Lib.decDigits v.toNat:=by
   have hm:=yX v.toNat;cases hd:Lib.decDigits v.toNat with
   |nil=>exact absurd hd (wO _)
   |cons b d=>
    rw [hd]at hm;have hb:=hm b ct;have hne: ¬ 45=b:=fun e=>by subst e;simp at hb
    unfold Lib.trimPrefix;simp [Lib.hasPrefix,hne]
  rw [e,e2,Lib.decDigits_length]at h;have:=hp _ h;omega
theorem OJ {w:List UInt8} {v:Int} (h:fH w=some v):w=Lib.itoa v/\ -999999999<=v/\v<=999999999:=by
 have hw:w=Lib.itoa v:=Cc (LG h);refine⟨hw,Mw ?_⟩;unfold fH numOf at h;split at h
 ·rename_i u hu;cases h1:(decide (sb (Lib.itoa u)=sb w) && decide ((Lib.trimPrefix (sb w).data.toList [45]).length<=9))with
  |false=>rw [h1]at h;cases h
  |true=>
   rw [cd,db,db,tJ]at h1;rw [<-hw];exact h1.2
 ·cases h
theorem pq (w:List UInt8):fH w=if(rq w).2=true then some (rq w).1 else none:=by
 by_cases h:(rq w).2=true
 ·obtain⟨h1,h2⟩:=Lv h;rw [ci h]
  conv=>lhs;rw [h1]
  exact MO h2
 ·rw [ce h];cases hn:fH w with
  |none=>rfl
  |some v=>
   obtain⟨h1,h2⟩:=OJ hn;exact absurd (by rw [h1,OL h2]) h
theorem EG (c:UInt8) (s:List UInt8):aY c (s++[c])=aY c s++[[]]:=by
 refine wN c (P:=fun s=>aY c (s++[c])=aY c s++[[]]) (fun s h=> ?_) (fun a r ha ih=> ?_) s.length s (cx _);·rw [lJ h,nk h];rfl
 ·rw [cQ,dE,lJ ha,lJ ha,ih];rfl
theorem Df {c b:UInt8} (hb:b≠c) (s:List UInt8):aY c (s++[b])=(aY c s).set ((aY c s).length - 1) (at' (aY c s) ((aY c s).length - 1)++[b]):=by
 refine wN c (P:=fun s=>aY c (s++[b])=(aY c s).set ((aY c s).length - 1) (at' (aY c s) ((aY c s).length - 1)++[b])) (fun s h=> ?_) (fun a r ha ih=> ?_) s.length s (cx _);·rw [nk h,nk (by simp [h,Ne.symm hb])];rfl
 ·rw [cQ,dE,lJ ha,lJ ha,ih];have h0:=List.length_pos_iff.2 (Ab c r);obtain⟨m,hm⟩: ∃m,(aY c r).length=m+1:=⟨(aY c r).length - 1,by omega⟩;rw [cX,hm];rfl
theorem SB {s:List UInt8} (hs:s.length<=1000000):nE (sb s)=some ((aY 32 s).map sb):=by
 have key:=iK (N:=FUEL) (body:=iT (sb s)) (fun t=>((aY 32 (s.take t)).map sb,(t:Int))) s.length (.brk ((aY 32 s).map sb)) (fuel_lt (by omega)) (fun t ht=> ?_) ?_
 ·unfold nE;show(aI (iT (sb s)) FUEL (((aY 32 (s.take 0)).map sb,((0:Nat):Int)))).bind _=_;rw [key];rfl
 ·have hn:=Ab 32 (s.take t);have hl:=(pE 32 (s.take t)).2;have hw:=(pE 32 (s.take t)).1;have h0:=List.length_pos_iff.2 hn;rw [d7]at hl;have hk:(((aY 32 (s.take t)).map sb).length:Int)=((aY 32 (s.take t)).length:Int):=by rw [dg]
  unfold iT;dsimp only;rw [bM,bx (by omega),bt,aJ (by omega),bw,vH ht,wr (x:=(t:Int)+1) (by omega),zQ ht];by_cases hb:at' s t=32
  ·rw [hb,bx (by rfl),bt,aJ (by simp only [dg,cw];omega),EG,List.map_append];rfl
  ·have hbn: ¬ (((at' s t).toNat:Int)=32):=fun e=>hb (UInt8.toNat.inj (by show(at' s t).toNat=32;omega));have hlast:at' ((aY 32 (s.take t)).map sb) ((aY 32 (s.take t)).length - 1)=sb (at' (aY 32 (s.take t)) ((aY 32 (s.take t)).length - 1)):=gy _ (by omega);have hsub:bD (sb s) t (t+1)=sb [at' s t]:=by
    rw [ql,zQ ht,List.drop_append_of_le_length (by rw [d7];omega),List.drop_eq_nil_of_le (by rw [d7];omega)];rfl
   have hmw:=hw _ (at_mem (l:=aY 32 (s.take t)) (i:=(aY 32 (s.take t)).length - 1) (by omega));rw [d7]at hmw;rw [bz hbn,bu,hk,wr (x:=((aY 32 (s.take t)).length:Int) - 1) (by omega),show(((aY 32 (s.take t)).length:Int) - 1).toNat=(aY 32 (s.take t)).length - 1 by omega,show((t:Int)+1).toNat=t+1 by omega,hlast,hsub,wW,
    aJ ⟨by omega,by omega,by rw [bM,bM,cw];omega⟩,Df hb,List.map_set]
   rfl
 ·unfold iT;dsimp only;rw [bM,bz (by omega),bu,d_]
theorem LW {l:List (List UInt8)} {w:List UInt8} {i:Nat} (hi:i<l.length) (hl:l.length<=1000000):fU (l.map sb) (sb w) (i:Int)=some (if at' l i=w then .done (.ret (i:Int))else .next ((i+1:Nat):Int)):=by
 unfold fU;rw [bx (by rw [dg];omega),bt,aJ (by rw [dg];omega),bw,gy _ hi,EC,wr (by omega)];by_cases h:at' l i=w;·rw [bx h,ci h];rfl
 ·rw [bz h,ce h];rfl
theorem N8 {l:List (List UInt8)} {w:List UInt8}:fU (l.map sb) (sb w) (l.length:Int)=some (.done (.brk ())):=by
 unfold fU;rw [bz (by rw [dg];omega)];rfl
def Vm (l:List (List UInt8)) (w:List UInt8):Nat->Nat->Int
 |_,0=>0
 |i,k+1=>if at' l i=w then(i:Int)else Vm l w (i+1) k
theorem GH {l:List (List UInt8)} {w:List UInt8} (hl:l.length<=1000000): ∀(k i n:Nat),i+k=l.length->k<n->(aI (fU (l.map sb) (sb w)) n (i:Int)).bind (fun o=>match o with| .ret v=>some v| .brk _=>some 0)=some (Vm l w i k)
 |0,i,n,h,hn=>by
  obtain⟨n,rfl⟩: ∃m,n=m+1:=⟨n - 1,by omega⟩;obtain rfl:i=l.length:=by omega
  rw [aF,N8];rfl
 |k+1,i,n,h,hn=>by
  obtain⟨n,rfl⟩: ∃m,n=m+1:=⟨n - 1,by omega⟩;rw [aF,LW (by omega) hl,Vm];by_cases e:at' l i=w;·rw [ci e,ci e];rfl
  ·rw [ce e,ce e];exact GH hl k (i+1) n (by omega) (by omega)
theorem Jq (l:List (List UInt8)) (w:List UInt8) (hl:1<=l.length/\l.length<=1000000):fO (l.map sb) (sb w)=some (Vm l w 1 (l.length - 1)):=by
 unfold fO;exact GH hl.2 (l.length - 1) 1 FUEL (by omega) (by unfold FUEL;omega)
theorem Dq (a b c w:List UInt8):fO [sb [],sb a,sb b,sb c] (sb w)=some ((nW a b c w).getD 0):=by
 refine(Jq [[],a,b,c] w (by simp)).trans ?_;show some (if a=w then 1 else if b=w then 2 else if c=w then 3 else 0)=_;unfold nW;by_cases h1:a=w;·rw [ci h1,ci h1.symm];rfl
 ·rw [ce h1,ce (Ne.symm h1)];by_cases h2:b=w
  ·rw [ci h2,ci h2.symm];rfl
  ·rw [ce h2,ce (Ne.symm h2)];by_cases h3:c=w
   ·rw [ci h3,ci h3.symm];rfl
   ·rw [ce h3,ce (Ne.symm h3)];rfl
theorem ET (a b c w:List UInt8):(nW a b c w).getD 0=0↔nW a b c w=none:=by
 unfold nW;by_cases h1:w=a;·rw [ci h1];simp
 ·rw [ce h1];by_cases h2:w=b
  ·rw [ci h2];simp
  ·rw [ce h2];by_cases h3:w=c
   ·rw [ci h3];simp
   ·rw [ce h3];simp
theorem Lh (w:List UInt8):fO [sb [],sb jG,sb jR,sb qw,sb qj] (sb w)=some (fQ w):=by
 refine(Jq [[],jG,jR,qw,qj] w (by simp)).trans ?_;show some (if jG=w then 1 else if jR=w then 2 else if qw=w then 3 else if qj=w then 4 else 0)=_;unfold fQ;congr 1;by_cases h1:jG=w;·rw [ci h1,ci h1.symm]
 ·rw [ce h1,ce (Ne.symm h1)];by_cases h2:jR=w
  ·rw [ci h2,ci h2.symm]
  ·rw [ce h2,ce (Ne.symm h2)];by_cases h3:qw=w
   ·rw [ci h3,ci h3.symm]
   ·rw [ce h3,ce (Ne.symm h3)];by_cases h4:qj=w
    ·rw [ci h4,ci h4.symm]
    ·rw [ce h4,ce (Ne.symm h4)]
def IY (w:List UInt8):Int:=if(Lib.cut w [58]).2.2=true then((Lib.cut w [58]).1.length:Int)else -1
theorem Qw (l:List (List UInt8)) {i:Nat} (hi:i<l.length) (hw:(at' l i).length<=1000000) (h10:l.length<=1000000):aI (gu (l.map sb) (i:Int)) FUEL (-1,0)=some (.brk (IY (at' l i))):=by
 have hsz:(at' (l.map sb) i).size=(at' l i).length:=by rw [gy _ hi,bM]
 have hc1:(0:Int)<=(i:Int)/\(i:Int)<(((l.map sb).length:Nat):Int):=by rw [dg];omega
 have hend: ∀v:Int,gu (l.map sb) (i:Int) (v,((at' l i).length:Int))=some (.done (.brk v)):=fun v=>by
  unfold gu;dsimp only;rw [aJ hc1,bw,hsz,bz (by omega)];rfl
 have hstep: ∀(v:Int) (t:Nat),t<(at' l i).length->gu (l.map sb) (i:Int) (v,(t:Int))=some (.next (if at' (at' l i) t=58/\v<0 then(t:Int)else v,((t+1:Nat):Int))):=fun v t ht=>by
  unfold gu;dsimp only;rw [aJ hc1,bw,hsz,bx (by omega),bt,aJ ⟨hc1,by omega⟩,bw,gy _ hi,vH ht,wr (by omega)];by_cases hb:at' (at' l i) t=58
  ·rw [hb,bx (by rfl),bt];by_cases hv:v<0
   ·rw [bx hv,ci ⟨rfl,hv⟩];rfl
   ·rw [bz hv,ce (fun h=>hv h.2)];rfl
  ·have hbn: ¬ (((at' (at' l i) t).toNat:Int)=58):=fun e=>hb (UInt8.toNat.inj (by show(at' (at' l i) t).toNat=58;omega));rw [bz hbn,ce (fun h=>hb h.1)];rfl
 generalize at' l i=w at hw hend hstep;by_cases hm:58∈w
 ·obtain⟨a,r,rfl,ha⟩:=List.eq_append_cons_of_mem hm;have hcol:IY (a++58::r)=(a.length:Int):=by unfold IY;rw [wV ha,ci rfl]
  rw [hcol];refine iK (N:=FUEL) (fun t=>((if t<=a.length then -1 else(a.length:Int)),(t:Int))) (a++58::r).length _ (fuel_lt (by omega)) (fun t ht=> ?_) ?_
  ·rw [hstep _ t ht];rcases Nat.lt_trichotomy t a.length with h|h|h
   ·have hne:at' (a++58::r) t≠58:=fun e=>by
     rw [jd ht,List.getElem_append_left h]at e;exact ha (e ▸ List.getElem_mem h)
    rw [ce (fun h=>hne h.1),ci (by omega),ci (by omega)]
   ·subst h;have he:at' (a++58::r) a.length=58:=by rw [jd ht];simp
    rw [ci (cx _),ci ⟨he,by omega⟩,ce (by omega: ¬ a.length+1<=a.length)]
   ·rw [ce (by omega: ¬ t<=a.length),ce (fun h=>by omega),ce (by omega)]
  ·rw [hend];simp only [b_,cX];rw [ce (by omega)]
 ·have hcol:IY w= -1:=by unfold IY;rw [wz hm,ce (by simp)]
  rw [hcol];refine iK (N:=FUEL) (fun t=>(-1,(t:Int))) w.length _ (fuel_lt (by omega)) (fun t ht=> ?_) (hend _);have hne:at' w t≠58:=fun e=>hm (e ▸ at_mem ht);rw [hstep _ t ht,ce (fun h=>hne h.1)]
theorem OZ (l:List (List UInt8)) {i:Nat} (hi:i<l.length) (hw:(at' l i).length<=1000000) (h10:l.length<=1000000) {acc:List au} (hacc:acc.length<=2000000):
  eO (l.map sb) (acc,(i:Int))=some (match Ch (at' l i)with|some x=> .next (acc++[x],((i+1:Nat):Int))|none=> .done (.ret ([],false))):=by
 have hc1:(0:Int)<=(i:Int)/\(i:Int)<(((l.map sb).length:Nat):Int):=by rw [dg];omega
 unfold eO;dsimp only;rw [bx hc1.2,bt,Qw l hi hw h10,br];dsimp only;rw [bw,gy _ hi,bM];unfold Ch;by_cases hm:58∈at' l i
 ·obtain⟨a,r,hw2,ha⟩:=List.eq_append_cons_of_mem hm;have hcol:IY (at' l i)=(a.length:Int):=by unfold IY;rw [hw2,wV ha,ci rfl]
  have hlen:=congrArg List.length hw2;simp only [b_,cX]at hlen;have e1:bD (sb (at' l i)) 0 a.length=sb a:=by rw [ql,hw2];simp
  have e2:bD (sb (at' l i)) (a.length+1) (at' l i).length=sb r:=by
   rw [ql,d_,hw2];simp
  rw [hcol,bz (by omega),bu,bw,e1,number_eq,br,aJ ⟨hc1,by omega⟩,wr (x:=(a.length:Int)+1) (by omega),show((a.length:Int)+1).toNat=a.length+1 by omega,e2,number_eq,br,aJ ⟨hc1,by omega⟩,
   wr (by omega)]
  rw [hw2,wV ha];dsimp only;rw [bt,pq a,pq r];cases hA:(rq a).2 with
  |false=>rfl
  |true=>
   cases hB:(rq r).2 with
   |false=>rfl
   |true=>
    show aX _ _=_;rw [aJ (by simp only [cw];omega)];rfl
 ·have hcol:IY (at' l i)= -1:=by unfold IY;rw [wz hm,ce (by simp)]
  rw [hcol,wz hm];rfl
theorem Dl (l:List (List UInt8)) (hw: ∀w∈l,w.length<=1000000) (h10:l.length<=1000000): ∀(r:List (List UInt8)) (i n:Nat) (acc:List au),l.drop i=r->r.length<n->acc.length+r.length<=1000000->
  aI (eO (l.map sb)) n (acc,(i:Int))=some (match ji r with|some x=> .brk (acc++x)|none=> .ret ([],false))
 |[],i,n,acc,hd,hn,_=>by
  obtain⟨n,rfl⟩: ∃m,n=m+1:=⟨n - 1,by omega⟩;have hle:l.length<=i:=by
   rcases Nat.lt_or_ge i l.length with h|h;·rw [eN h]at hd;cases hd
   ·exact h
  have hb:eO (l.map sb) (acc,(i:Int))=some (.done (.brk acc)):=by
   unfold eO;dsimp only;rw [bz (by rw [dg];omega)];rfl
  rw [aF,hb];show some _=some (Ex.brk (acc++[]));rw [cV]
 |w::r,i,n,acc,hd,hn,ha=>by
  obtain⟨n,rfl⟩: ∃m,n=m+1:=⟨n - 1,by omega⟩;have hlt:i<l.length:=by
   rcases Nat.lt_or_ge i l.length with h|h;·exact h
   ·rw [List.drop_eq_nil_of_le h]at hd;cases hd
  have hd2:=hd;rw [eN hlt]at hd2;obtain⟨e1,e2⟩:=List.cons.inj hd2;simp only [cX]at hn ha;rw [aF,OZ l hlt (hw _ (at_mem hlt)) h10 (by omega),jd hlt,e1,ji];cases Ch w with
  |none=>rfl
  |some t=>
   refine(Dl l hw h10 r (i+1) n (acc++[t]) e2 (by omega) (by simp only [b_,cw];omega)).trans ?_;cases ji r with
   |none=>rfl
   |some x=>simp
theorem Sj (l:List (List UInt8)) (hw: ∀w∈l,w.length<=1000000) (h10:l.length<=1000000):nC (l.map sb)=some (match ji l with|some x=>(x,true)|none=>([],false)):=by
 unfold nC;have:=Dl l hw h10 l 0 FUEL [] rfl (by unfold FUEL;omega) (by simp;omega);show(aI (eO (l.map sb)) FUEL ([],((0:Nat):Int))).bind _=_;rw [this];cases ji l<;>rfl
def Bu (R:Int) (i:Nat) (w:List UInt8):Option Int:=if R=2/\i=2 then nW tQ Cz CG w else if R=3/\i=3 then nW BA BL BN w else fH w
theorem Uw:iI=some [sb [],sb tQ,sb Cz,sb CG]:=rfl
theorem UE:jO=some [sb [],sb BA,sb BL,sb BN]:=rfl
section
variable {p:af} {ws:List (List UInt8)} {R:Int} (hlen:ws.length<=1000000)
include hlen
theorem iE (hi:1<ws.length) (n0 n1 n2 n3 n4 n5:Int):aR p (ws.map sb) R (n0,n1,n2,n3,n4,n5,1)=some (match Bu R 1 (at' ws 1)with|some v=> .next (n0,v,n2,n3,n4,n5,2)|none=> .done (.ret (p,0))):=by
 unfold aR;dsimp only;rw [show(bif decide ((1:Int)<(((ws.map sb).length:Nat):Int))then decide ((1:Int)<6)else false)=true by rw [bx (by rw [dg];omega)];rfl,bt];unfold Bu
 ·rw [show(bif decide (R=2)then decide ((1:Int)=2)else false)=false by cases decide (R=2)<;>rfl,bu,show(bif decide (R=3)then decide ((1:Int)=3)else false)=false by cases decide (R=3)<;>rfl,bu,ce (fun h=>absurd h.2 (by decide)),ce (fun h=>absurd h.2 (by decide))];rw [show(((1:Int)).toNat)=1 from rfl,gy _ hi,number_eq,br,aJ (by rw [dg];omega),pq];cases(rq (at' ws 1)).2<;>rfl
theorem jZ (hi:2<ws.length) (n0 n1 n2 n3 n4 n5:Int):aR p (ws.map sb) R (n0,n1,n2,n3,n4,n5,2)=some (match Bu R 2 (at' ws 2)with|some v=> .next (n0,n1,v,n3,n4,n5,3)|none=> .done (.ret (p,0))):=by
 unfold aR;dsimp only;rw [show(bif decide ((2:Int)<(((ws.map sb).length:Nat):Int))then decide ((2:Int)<6)else false)=true by rw [bx (by rw [dg];omega)];rfl,bt];unfold Bu;by_cases hR:R=2
 ·rw [show(bif decide (R=2)then decide ((2:Int)=2)else false)=true by rw [bx hR];rfl,bt,ci ⟨hR,rfl⟩];rw [aJ (rfl:(2:Int)=2),Uw,br,gy _ hi,Dq,br,aJ (by rw [dg];omega)];cases hk:nW tQ Cz CG (at' ws 2)with
  |none=>rfl
  |some k=>
   have hz: ¬ (some k:Option Int).getD 0=0:=fun e=>by have:=(ET tQ Cz CG (at' ws 2)).1 (by rw [hk];exact e);rw [hk]at this;cases this
   rw [bz hz];rfl
 ·rw [show(bif decide (R=2)then decide ((2:Int)=2)else false)=false by rw [bz hR];rfl,bu,show(bif decide (R=3)then decide ((2:Int)=3)else false)=false by cases decide (R=3)<;>rfl,bu,ce (fun h=>hR h.1),ce (fun h=>absurd h.2 (by decide))];rw [show(((2:Int)).toNat)=2 from rfl,gy _ hi,number_eq,br,aJ (by rw [dg];omega),pq];cases(rq (at' ws 2)).2<;>rfl
theorem nu (hi:3<ws.length) (n0 n1 n2 n3 n4 n5:Int):aR p (ws.map sb) R (n0,n1,n2,n3,n4,n5,3)=some (match Bu R 3 (at' ws 3)with|some v=> .next (n0,n1,n2,v,n4,n5,4)|none=> .done (.ret (p,0))):=by
 unfold aR;dsimp only;rw [show(bif decide ((3:Int)<(((ws.map sb).length:Nat):Int))then decide ((3:Int)<6)else false)=true by rw [bx (by rw [dg];omega)];rfl,bt];unfold Bu;rw [show(bif decide (R=2)then decide ((3:Int)=2)else false)=false by cases decide (R=2)<;>rfl,bu,ce (fun h=>absurd h.2 (by decide))];by_cases hR:R=3
 ·rw [show(bif decide (R=3)then decide ((3:Int)=3)else false)=true by rw [bx hR];rfl,bt,ci ⟨hR,rfl⟩];rw [aJ (rfl:(3:Int)=3),UE,br,gy _ hi,Dq,br,aJ (by rw [dg];omega)];cases hk:nW BA BL BN (at' ws 3)with
  |none=>rfl
  |some k=>
   have hz: ¬ (some k:Option Int).getD 0=0:=fun e=>by have:=(ET BA BL BN (at' ws 3)).1 (by rw [hk];exact e);rw [hk]at this;cases this
   rw [bz hz];rfl
 ·rw [show(bif decide (R=3)then decide ((3:Int)=3)else false)=false by rw [bz hR];rfl,bu,ce (fun h=>hR h.1)];rw [show(((3:Int)).toNat)=3 from rfl,gy _ hi,number_eq,br,aJ (by rw [dg];omega),pq];cases(rq (at' ws 3)).2<;>rfl
theorem sF (hi:4<ws.length) (n0 n1 n2 n3 n4 n5:Int):aR p (ws.map sb) R (n0,n1,n2,n3,n4,n5,4)=some (match Bu R 4 (at' ws 4)with|some v=> .next (n0,n1,n2,n3,v,n5,5)|none=> .done (.ret (p,0))):=by
 unfold aR;dsimp only;rw [show(bif decide ((4:Int)<(((ws.map sb).length:Nat):Int))then decide ((4:Int)<6)else false)=true by rw [bx (by rw [dg];omega)];rfl,bt];unfold Bu
 ·rw [show(bif decide (R=2)then decide ((4:Int)=2)else false)=false by cases decide (R=2)<;>rfl,bu,show(bif decide (R=3)then decide ((4:Int)=3)else false)=false by cases decide (R=3)<;>rfl,bu,ce (fun h=>absurd h.2 (by decide)),ce (fun h=>absurd h.2 (by decide))];rw [show(((4:Int)).toNat)=4 from rfl,gy _ hi,number_eq,br,aJ (by rw [dg];omega),pq];cases(rq (at' ws 4)).2<;>rfl
theorem ES (hi:5<ws.length) (n0 n1 n2 n3 n4 n5:Int):aR p (ws.map sb) R (n0,n1,n2,n3,n4,n5,5)=some (match Bu R 5 (at' ws 5)with|some v=> .next (n0,n1,n2,n3,n4,v,6)|none=> .done (.ret (p,0))):=by
 unfold aR;dsimp only;rw [show(bif decide ((5:Int)<(((ws.map sb).length:Nat):Int))then decide ((5:Int)<6)else false)=true by rw [bx (by rw [dg];omega)];rfl,bt];unfold Bu
 ·rw [show(bif decide (R=2)then decide ((5:Int)=2)else false)=false by cases decide (R=2)<;>rfl,bu,show(bif decide (R=3)then decide ((5:Int)=3)else false)=false by cases decide (R=3)<;>rfl,bu,ce (fun h=>absurd h.2 (by decide)),ce (fun h=>absurd h.2 (by decide))];rw [show(((5:Int)).toNat)=5 from rfl,gy _ hi,number_eq,br,aJ (by rw [dg];omega),pq];cases(rq (at' ws 5)).2<;>rfl
omit hlen in
theorem rP (i:Int) (hi:(ws.length:Int)<=i) (n0 n1 n2 n3 n4 n5:Int):aR p (ws.map sb) R (n0,n1,n2,n3,n4,n5,i)=some (.done (.brk (n0,n1,n2,n3,n4,n5))):=by
 unfold aR;dsimp only;rw [bz (by rw [dg];omega)];rfl
omit hlen in
theorem QE (n0 n1 n2 n3 n4 n5:Int):aR p (ws.map sb) R (n0,n1,n2,n3,n4,n5,6)=some (.done (.brk (n0,n1,n2,n3,n4,n5))):=by
 unfold aR;dsimp only;rw [show(bif decide ((6:Int)<(((ws.map sb).length:Nat):Int))then decide ((6:Int)<6)else false)=false by cases decide ((6:Int)<(((ws.map sb).length:Nat):Int))<;>rfl];rfl
omit hlen in
def fV (ws:List (List UInt8)) (R:Int) (i:Nat):Option Int:=if i<ws.length then Bu R i (at' ws i)else some 0
omit hlen in
theorem cK {ws:List (List UInt8)} {R:Int} {i:Nat} (h:i<ws.length):fV ws R i=Bu R i (at' ws i):=ci h
omit hlen in
theorem dR {ws:List (List UInt8)} {R:Int} {i:Nat} (h: ¬ i<ws.length):fV ws R i=some 0:=ce h
theorem wP:(aI (aR p (ws.map sb) R) FUEL (0,0,0,0,0,0,1)=some (.ret (p,0))/\(fV ws R 1=none\/fV ws R 2=none\/fV ws R 3=none\/fV ws R 4=none\/fV ws R 5=none))\/
  (∃a b c d e,aI (aR p (ws.map sb) R) FUEL (0,0,0,0,0,0,1)=some (.brk (0,a,b,c,d,e))/\fV ws R 1=some a/\fV ws R 2=some b/\fV ws R 3=some c/\fV ws R 4=some d/\fV ws R 5=some e):=by
 have up: ∀{x:Int × Int × Int × Int × Int × Int × Int} {r:Ex (Int × Int × Int × Int × Int × Int) (af × Int)},aI (aR p (ws.map sb) R) 6 x=some r->aI (aR p (ws.map sb) R) FUEL x=some r:=fun h=>rW h (by unfold FUEL;omega);by_cases h1:1<ws.length
 ·cases e1:fV ws R 1 with
  |none=>exact .inl ⟨up (by rw [aF,iE hlen h1,<-cK h1,e1]),by simp [e1]⟩
  |some a=>
   by_cases h2:2<ws.length
   ·cases e2:fV ws R 2 with
    |none=>exact .inl ⟨up (by rw [aF,iE hlen h1,<-cK h1,e1];dsimp only;rw [aF,jZ hlen h2,<-cK h2,e2]),by simp [e2]⟩
    |some b=>
     by_cases h3:3<ws.length
     ·cases e3:fV ws R 3 with
      |none=>exact .inl ⟨up (by rw [aF,iE hlen h1,<-cK h1,e1];dsimp only;rw [aF,jZ hlen h2,<-cK h2,e2];dsimp only;rw [aF,nu hlen h3,<-cK h3,e3]),by simp [e3]⟩
      |some c=>
       by_cases h4:4<ws.length
       ·cases e4:fV ws R 4 with
        |none=>exact .inl ⟨up (by rw [aF,iE hlen h1,<-cK h1,e1];dsimp only;rw [aF,jZ hlen h2,<-cK h2,e2];dsimp only;rw [aF,nu hlen h3,<-cK h3,e3];dsimp only;rw [aF,sF hlen h4,<-cK h4,e4]),by simp [e4]⟩
        |some d=>
         by_cases h5:5<ws.length
         ·cases e5:fV ws R 5 with
          |none=>exact .inl ⟨up (by rw [aF,iE hlen h1,<-cK h1,e1];dsimp only;rw [aF,jZ hlen h2,<-cK h2,e2];dsimp only;rw [aF,nu hlen h3,<-cK h3,e3];dsimp only;rw [aF,sF hlen h4,<-cK h4,e4];dsimp only;rw [aF,ES hlen h5,<-cK h5,e5]),by simp [e5]⟩
          |some e=>
           exact .inr ⟨a,b,c,d,e,up (by rw [aF,iE hlen h1,<-cK h1,e1];dsimp only;rw [aF,jZ hlen h2,<-cK h2,e2];dsimp only;rw [aF,nu hlen h3,<-cK h3,e3];dsimp only;rw [aF,sF hlen h4,<-cK h4,e4];dsimp only;rw [aF,ES hlen h5,<-cK h5,e5];dsimp only;rw [aF,QE]),rfl,rfl,rfl,rfl,rfl⟩
         ·exact .inr ⟨a,b,c,d,0,up (by rw [aF,iE hlen h1,<-cK h1,e1];dsimp only;rw [aF,jZ hlen h2,<-cK h2,e2];dsimp only;rw [aF,nu hlen h3,<-cK h3,e3];dsimp only;rw [aF,sF hlen h4,<-cK h4,e4];dsimp only;rw [aF,rP 5 (by omega)]),rfl,rfl,rfl,rfl,dR (by omega)⟩
       ·exact .inr ⟨a,b,c,0,0,up (by rw [aF,iE hlen h1,<-cK h1,e1];dsimp only;rw [aF,jZ hlen h2,<-cK h2,e2];dsimp only;rw [aF,nu hlen h3,<-cK h3,e3];dsimp only;rw [aF,rP 4 (by omega)]),rfl,rfl,rfl,dR (by omega),dR (by omega)⟩
     ·exact .inr ⟨a,b,0,0,0,up (by rw [aF,iE hlen h1,<-cK h1,e1];dsimp only;rw [aF,jZ hlen h2,<-cK h2,e2];dsimp only;rw [aF,rP 3 (by omega)]),rfl,rfl,dR (by omega),dR (by omega),dR (by omega)⟩
   ·exact .inr ⟨a,0,0,0,0,up (by rw [aF,iE hlen h1,<-cK h1,e1];dsimp only;rw [aF,rP 2 (by omega)]),rfl,dR (by omega),dR (by omega),dR (by omega),dR (by omega)⟩
 ·exact .inr ⟨0,0,0,0,0,up (by rw [aF,rP 1 (by omega)]),dR (by omega),dR (by omega),dR (by omega),dR (by omega),dR (by omega)⟩
end
def lq (p:af) (o:Option (Int × af)):af × Int:=match o with|some (r,q)=>(q,r)|none=>(p,0)
theorem lq1 {rank:Int} (h:(1:Int)≠0/\rank<=1/\((1:Int)<1↔0<rank)) (ws:List (List UInt8)) (p:af):qp 1 rank ws p=if ws.length=2 then(fV ws 1 1).map fun n=>(1,⟨n,p.aa,p.ae,p.ac⟩)else none:=by
 unfold qp;rw [ci h,ci rfl];by_cases hl:ws.length=2
 ·rw [ci hl]
  match ws,hl with
  |[w,b],_=>rfl
 ·rw [ce hl];split
  ·exact absurd rfl hl
  ·rfl
theorem lq2 {rank:Int} (h:(2:Int)≠0/\rank<=2/\((1:Int)<2↔0<rank)) (ws:List (List UInt8)) (p:af):qp 2 rank ws p=((if ws.length=6 then
  (match fV ws 2 1,fV ws 2 2,fV ws 2 3,fV ws 2 4,fV ws 2 5 with|some a,some b,some c,some d,some e=>some (2,⟨p.ag,p.aa++[⟨a,b,c,d,e⟩],p.ae,p.ac⟩)|_,_,_,_,_=>none)else none:Option (Int × af))):=by
 unfold qp;rw [ci h,ce (by decide),ci rfl];by_cases hl:ws.length=6
 ·rw [ci hl]
  match ws,hl with
  |[w,a,b,c,d,e],_=>rfl
 ·rw [ce hl];split
  ·exact absurd rfl hl
  ·rfl
theorem lq3 {rank:Int} (h:(3:Int)≠0/\rank<=3/\((1:Int)<3↔0<rank)) (ws:List (List UInt8)) (p:af):qp 3 rank ws p=((if 6<=ws.length then
  (match fV ws 3 1,fV ws 3 2,fV ws 3 3,fV ws 3 4,fV ws 3 5,ji (ws.drop 6)with|some a,some b,some c,some d,some e,some l=>some (3,⟨p.ag,p.aa,p.ae++[⟨a,b,c,d,e,l⟩],p.ac⟩)|_,_,_,_,_,_=>none)else none:Option (Int × af))):=by
 unfold qp;rw [ci h,ce (by decide),ce (by decide),ci rfl];by_cases hl:6<=ws.length
 ·rw [ci hl]
  match ws,hl with
  |w::a::b::c::d::e::ts,_=>
   have v: ∀i,i<6->fV (w::a::b::c::d::e::ts) 3 i=Bu 3 i (at' (w::a::b::c::d::e::ts) i):=fun i hi=>cK (by simp only [cX];omega);rw [v 1 (by decide),v 2 (by decide),v 3 (by decide),v 4 (by decide),v 5 (by decide)];rfl
 ·rw [ce hl];split
  ·exact absurd (by simp only [cX];omega) hl
  ·rfl
theorem lq4 {rank:Int} (h:(4:Int)≠0/\rank<=4/\((1:Int)<4↔0<rank)) (ws:List (List UInt8)) (p:af):qp 4 rank ws p=((if ws.length=5 then
  (match fV ws 4 1,fV ws 4 2,fV ws 4 3,fV ws 4 4 with|some a,some b,some c,some d=>some (4,⟨p.ag,p.aa,p.ae,p.ac++[⟨⟨a,b⟩,c,d⟩]⟩)|_,_,_,_=>none)else none:Option (Int × af))):=by
 unfold qp;rw [ci h,ce (by decide),ce (by decide),ce (by decide)];by_cases hl:ws.length=5
 ·rw [ci hl]
  match ws,hl with
  |[w,a,b,c,d],_=>rfl
 ·rw [ce hl];split
  ·exact absurd rfl hl
  ·rfl
theorem Rp (R rank:Int) (hr:0<=rank) (hR:0<=R):(bif (bif (decide (R=0))then true else(decide (R<rank)))then true else(!((decide (R=1))==(decide (rank=0)))))= !decide (R≠0/\rank<=R/\(1<R↔0<rank)):=by
 by_cases h0:R=0;·simp [h0]
 ·by_cases h1:R<rank
  ·have: ¬ rank<=R:=by omega
   simp [h0,h1,this]
  ·have h2:rank<=R:=by omega
   by_cases h3:R=1
   ·subst h3;by_cases h4:rank=0
    ·subst h4;rfl
    ·have:0<rank:=by omega
     simp [h4,h2,this]
   ·have h5:1<R:=by omega
    by_cases h4:rank=0;·subst h4;simp [h0,h3,h5]
    ·have:0<rank:=by omega
     simp [h0,h3,h4,h2,h1,this,h5]
theorem FI {rank:Int} (hr:0<=rank) {s:List UInt8} (hs:s.length<=200000) {p:af} (hp:Rm p):gY p rank (sb s)=some (lq p (xJ rank (aY 32 s) p)):=by
 have hps:=hp.s;have hpl:=hp.l;have hpr:=hp.r;obtain⟨hw,hl⟩:=pE 32 s;have hne:=Ab 32 s;have hpos:=List.length_pos_iff.2 hne;unfold gY xJ;rw [SB (by omega),br,gy _ hpos];have hhd:at' (aY 32 s) 0=(aY 32 s).headD []:=by
  cases h:aY 32 s with
  |nil=>exact absurd h hne
  |cons a l=>rfl
 have hix:=Lh (at' (aY 32 s) 0);rw [show([(⟨#[]⟩:ByteArray),⟨#[112,108,97,110,116]⟩,⟨#[115,111,117,114,99,101]⟩,⟨#[108,105,110,107]⟩,⟨#[114,97,99,107]⟩])=[sb [],sb jG,sb jR,sb qw,sb qj]from rfl,hix,br,hhd];obtain⟨hR0,hR4⟩:=wF ((aY 32 s).headD []);rw [aJ (by rw [dg];omega)];generalize fQ ((aY 32 s).headD [])=R at hR0 hR4;generalize aY 32 s=ws at hw hl;rw [Rp R rank hr hR0];by_cases hg:R≠0/\rank<=R/\(1<R↔0<rank)
 ·rw [bx hg,cD,bu];have hlen:ws.length<=1000000:=by omega
  have hR:R=1\/R=2\/R=3\/R=4:=by omega
  have hmap:(((ws.map sb).length:Nat):Int)=(ws.length:Int):=by rw [dg]
  rcases hR with rfl|rfl|rfl|rfl
  ·rw [lq1 hg];rcases wP (p:=p) (R:=1) hlen with⟨h,hv⟩|⟨a,b,c,d,e,h,h1,h2,h3,h4,h5⟩
   ·rw [h];by_cases hl2:ws.length=2
    ·rw [ci hl2];have:fV ws 1 1=none:=by
      rcases hv with hv|hv|hv|hv|hv;·exact hv
      ·rw [dR (by omega)]at hv;cases hv
      ·rw [dR (by omega)]at hv;cases hv
      ·rw [dR (by omega)]at hv;cases hv
      ·rw [dR (by omega)]at hv;cases hv
     rw [this];rfl
    ·rw [ce hl2];rfl
   ·rw [h];show(bif !decide ((((ws.map sb).length:Nat):Int)=2)then some (p,0)else some ((⟨a,p.aa,p.ae,p.ac⟩:af),(1:Int)))=_;rw [hmap];by_cases hl2:ws.length=2
    ·rw [bx (by omega),ci hl2,h1];rfl
    ·rw [bz (by omega),ce hl2];rfl
  ·rw [lq2 hg];rcases wP (p:=p) (R:=2) hlen with⟨h,hv⟩|⟨a,b,c,d,e,h,h1,h2,h3,h4,h5⟩
   ·rw [h];by_cases hl2:ws.length=6
    ·rw [ci hl2];revert hv;cases fV ws 2 1<;>cases fV ws 2 2<;>cases fV ws 2 3<;>cases fV ws 2 4<;>cases fV ws 2 5<;>first|(intro _;rfl)|(intro hv;simp at hv)
    ·rw [ce hl2];rfl
   ·rw [h];show(bif !decide ((((ws.map sb).length:Nat):Int)=6)then some (p,0)else aX _ (some ((⟨p.ag,p.aa++[⟨a,b,c,d,e⟩],p.ae,p.ac⟩:af),(2:Int))))=_;rw [hmap];by_cases hl2:ws.length=6
    ·rw [bx (by omega),ci hl2,h1,h2,h3,h4,h5,cD,bu,aJ (by simp only [cw];omega)];rfl
    ·rw [bz (by omega),ce hl2];rfl
  ·rw [lq3 hg];rcases wP (p:=p) (R:=3) hlen with⟨h,hv⟩|⟨a,b,c,d,e,h,h1,h2,h3,h4,h5⟩
   ·rw [h];by_cases hl2:6<=ws.length
    ·rw [ci hl2];revert hv;cases fV ws 3 1<;>cases fV ws 3 2<;>cases fV ws 3 3<;>cases fV ws 3 4<;>cases fV ws 3 5<;>first|(intro _;rfl)|(intro hv;simp at hv)
    ·rw [ce hl2];rfl
   ·rw [h];have htr:=Sj (ws.drop 6) (fun w hw2=>by have:=hw w (List.mem_of_mem_drop hw2);omega) (by rw [d8];omega);rw [<-List.map_drop,htr];show(bif decide ((((ws.map sb).length:Nat):Int)<6)then some (p,(0:Int))else(aX _ (bif !(match ji (ws.drop 6)with|some x=>(x,true)|none=>([],false):List au × Bool).2 then some (p,(0:Int))else aX _ (some ((⟨p.ag,p.aa,p.ae++[⟨a,b,c,d,e,(match ji (ws.drop 6)with|some x=>(x,true)|none=>([],false):List au × Bool).1⟩],p.ac⟩:af),(3:Int))))))=_;rw [hmap];by_cases hl2:6<=ws.length
    ·rw [bz (by omega),ci hl2,bu,aJ (by omega),h1,h2,h3,h4,h5];cases ji (ws.drop 6)with
     |none=>rfl
     |some l=>
      show aX _ _=_;rw [aJ (by simp only [cw];omega)];rfl
    ·rw [bx (by omega),ce hl2];rfl
  ·rw [lq4 hg];rcases wP (p:=p) (R:=4) hlen with⟨h,hv⟩|⟨a,b,c,d,e,h,h1,h2,h3,h4,h5⟩
   ·rw [h];by_cases hl2:ws.length=5
    ·rw [ci hl2];rw [dR (i:=5) (by omega)]at hv;revert hv;cases fV ws 4 1<;>cases fV ws 4 2<;>cases fV ws 4 3<;>cases fV ws 4 4<;>first|(intro _;rfl)|(intro hv;simp at hv)
    ·rw [ce hl2];rfl
   ·rw [h];show(bif !decide ((((ws.map sb).length:Nat):Int)=5)then some (p,0)else aX _ (some ((⟨p.ag,p.aa,p.ae,p.ac++[⟨⟨a,b⟩,c,d⟩]⟩:af),(4:Int))))=_;rw [hmap];by_cases hl2:ws.length=5
    ·rw [bx (by omega),ci hl2,h1,h2,h3,h4,cD,bu,aJ (by simp only [cw];omega)];rfl
    ·rw [bz (by omega),ce hl2];rfl
 ·rw [bz hg,cE,bt];have:qp R rank ws p=none:=by unfold qp;rw [ce hg]
  rw [this];rfl
theorem NF {T:List UInt8} (hT:T.length<=1000000) {i:Nat} (hi:i<T.length):dV (sb T) (i:Int)=some (if at' T i=10 then .done (.brk (i:Int))else .next ((i+1:Nat):Int)):=by
 unfold dV;rw [bM,bx (by omega),aJ (fun _=>by omega),bw,vH hi,wr (by omega),bt];by_cases h:at' T i=10;·rw [h,ci rfl];rfl
 ·have hbn: ¬ (((at' T i).toNat:Int)=10):=fun e=>h (UInt8.toNat.inj (by show(at' T i).toNat=10;omega));rw [bz hbn,ce h];rfl
theorem XR (T:List UInt8):dV (sb T) (T.length:Int)=some (.done (.brk (T.length:Int))):=by
 unfold dV;rw [bM,bz (by omega),aJ (fun h=>by simp [gB]at h)];rfl
theorem MG {T:List UInt8} (hT:T.length<=1000000) {j:Nat} (hj:j<=T.length) (he:j<T.length->at' T j=10): ∀(k i n:Nat),i+k=j->(∀t,i<=t->t<j->at' T t≠10)->k<n->aI (dV (sb T)) n (i:Int)=some (.brk (j:Int))
 |0,i,n,h,_,hn=>by
  obtain⟨n,rfl⟩: ∃m,n=m+1:=⟨n - 1,by omega⟩;obtain rfl:i=j:=by omega
  rcases Nat.lt_or_ge i T.length with h1|h1;·rw [aF,NF hT h1,ci (he h1)]
  ·obtain rfl:i=T.length:=by omega
   rw [aF,XR]
 |k+1,i,n,h,hm,hn=>by
  obtain⟨n,rfl⟩: ∃m,n=m+1:=⟨n - 1,by omega⟩;rw [aF,NF hT (by omega),ce (hm i (by omega) (by omega))];exact MG hT hj he k (i+1) n (by omega) (fun t h1 h2=>hm t (by omega) h2) (by omega)
theorem drop_at {T t:List UInt8} {f i:Nat} (h:T.drop f=t) (hi:i<t.length):f+i<T.length/\at' T (f+i)=at' t i:=by
 have hl:=congrArg List.length h;rw [d8]at hl;refine⟨by omega, ?_⟩;subst h;rw [jd (by omega),jd hi,List.getElem_drop]
theorem Sy {T s t:List UInt8} (hT:T.length<=1000000) {f:Nat} (h:T.drop f=s++10::t) (hs:10 ∉ s):aI (dV (sb T)) FUEL (f:Int)=some (.brk ((f+s.length:Nat):Int))/\f+s.length<T.length:=by
 obtain⟨h1,h2⟩:=drop_at h (i:=s.length) (by simp);refine⟨MG hT (by omega) (fun _=> ?_) s.length f FUEL rfl (fun t ht1 ht2=> ?_) (by unfold FUEL;omega),h1⟩;·rw [h2,jd (by simp)];simp
 ·obtain⟨i,rfl⟩: ∃i,t=f+i:=⟨t - f,by omega⟩;obtain⟨_,h3⟩:=drop_at h (i:=i) (by simp;omega);rw [h3,jd (by simp;omega),List.getElem_append_left (by omega)];exact fun e=>hs (e ▸ List.getElem_mem _)
theorem UA {T t:List UInt8} (hT:T.length<=1000000) {f:Nat} (h:T.drop f=t) (h0:t≠[]) (hs:10 ∉ t):aI (dV (sb T)) FUEL (f:Int)=some (.brk (T.length:Int)):=by
 have hl:=congrArg List.length h;rw [d8]at hl;have:=List.length_pos_iff.2 h0;refine MG hT (cx _) (fun h=>by omega) t.length f FUEL (by omega) (fun u hu1 hu2=> ?_) (by unfold FUEL;omega);obtain⟨i,rfl⟩: ∃i,u=f+i:=⟨u - f,by omega⟩;obtain⟨_,h3⟩:=drop_at h (i:=i) (by omega);rw [h3];exact fun e=>hs (e ▸ at_mem (by omega))
theorem Pf {r r':Int} {ws:List (List UInt8)} {p q:af} (h:xJ r ws p=some (r',q)):1<=r':=by
 rcases HY h with⟨rfl,_⟩|⟨rfl,_⟩|⟨rfl,_⟩|⟨rfl,_⟩<;>omega
theorem Lines.le {t:List UInt8} {p e:af} {n m r:Int} {ok:Bool} (h:Lines t p n r ok e m):n<=m:=by
 induction h with
 |nil=>omega
 |bad=>omega
 |stop=>omega
 |step h hl ht ih=>omega
theorem Lines.ref {T:List UInt8} (hT:T.length<=131072) {t:List UInt8} {p e:af} {n m r:Int} {ok:Bool} (h:Lines t p n r ok e m): ∀(f k:Nat),T.drop f=t->f<=T.length->t.length<k->PO p t->0<=n->0<=r->n+t.length<=1000000->
  aI (bY (sb T)) k (p.ag,p.aa,p.ae,p.ac,n,r,(f:Int))=some (bif ok then .brk (e.ag,e.aa,e.ae,e.ac,m)else .ret (E1,m,3)):=by
 induction h with
 |nil p n r=>
  intro f k hd hf hk _ _ _ _;obtain⟨k,rfl⟩: ∃m,k=m+1:=⟨k - 1,by omega⟩;have hl:=congrArg List.length hd;rw [d8]at hl;simp only [List.length_nil]at hl;have hb:bY (sb T) (p.ag,p.aa,p.ae,p.ac,n,r,(f:Int))=some (.done (.brk (p.ag,p.aa,p.ae,p.ac,n))):=by
   unfold bY;dsimp only;rw [bM,bz (by omega)];rfl
  rw [aF,hb];rfl
 |bad h0 h p n r=>
  rename_i t;intro f k hd hf hk hr _ _ _;obtain⟨k,rfl⟩: ∃m,k=m+1:=⟨k - 1,by omega⟩;have hl:=congrArg List.length hd;rw [d8]at hl;have:=List.length_pos_iff.2 h0;have hb:bY (sb T) (p.ag,p.aa,p.ae,p.ac,n,r,(f:Int))=some (.done (.ret (E1,n,3))):=by
   unfold bY;dsimp only;rw [bM,bx (by omega),bt,UA (by omega) hd h0 h];show(bif decide ((T.length:Int)<(T.length:Int))then _ else _)=_;rw [bz (by omega),bu,bx rfl];rfl
  rw [aF,hb];rfl
 |stop h hl=>
  rename_i s t p n r;intro f k hd hf hk hr _ hr0 _;obtain⟨k,rfl⟩: ∃m,k=m+1:=⟨k - 1,by omega⟩;obtain⟨h1,h2⟩:=Sy (by omega) hd h;have hr1:=hr.s;have hsl:s.length<=200000:=by simp at hr1;omega
  have hsub:bD (sb T) f (f+s.length)=sb s:=by rw [ql,List.drop_take,hd];simp
  have hb:bY (sb T) (p.ag,p.aa,p.ae,p.ac,n,r,(f:Int))=some (.done (.ret (E1,n,3))):=by
   unfold bY;dsimp only;rw [bM,bx (by omega),bt,h1];dsimp only [Option.bind_some];rw [bx (by omega),bt,bw,bw,hsub];rw [show(gY ⟨p.ag,p.aa,p.ae,p.ac⟩ r (sb s))=some (p,0) by rw [FI hr0 hsl hr.rm,hl];rfl,br,aJ (by omega)];rw [bz (by omega),bu,bx rfl];rfl
  rw [aF,hb];rfl
 |step h hl ht ih=>
  rename_i s t p q e n m r r' ok;intro f k hd hf hk hr hn hr0 hm;obtain⟨k,rfl⟩: ∃m,k=m+1:=⟨k - 1,by omega⟩;obtain⟨h1,h2⟩:=Sy (by omega) hd h;have hr1:=hr.s;have hsl:s.length<=200000:=by simp at hr1;omega
  have hsub:bD (sb T) f (f+s.length)=sb s:=by rw [ql,List.drop_take,hd];simp
  have hr'1:=Pf hl;simp only [b_,cX]at hk hm;have hb:bY (sb T) (p.ag,p.aa,p.ae,p.ac,n,r,(f:Int))=some (.next (q.ag,q.aa,q.ae,q.ac,n+1,r',((f+s.length+1:Nat):Int))):=by
   unfold bY;dsimp only;rw [bM,bx (by omega),bt,h1];dsimp only [Option.bind_some];rw [bx (by omega),bt,bw,bw,hsub];rw [show(gY ⟨p.ag,p.aa,p.ae,p.ac⟩ r (sb s))=some (q,r') by rw [FI hr0 hsl hr.rm,hl];rfl,br,aJ (by omega)];rw [bz (by omega),bu,bz (by show ¬ r'=0;omega),bu,wr (by omega),wr (by omega)];rfl
  rw [aF,hb];refine ih (f+s.length+1) k ?_ (by omega) (by omega) (hr.step hl) (by omega) (by omega) (by omega);rw [show f+s.length+1=f+(s.length+1) by omega,<-List.drop_drop,hd];simp
theorem JD {t:List UInt8} (ht:t.length<=131072) {ok:Bool} {e:af} {n:Int} (h:Lines t E1 0 0 ok e n):kM (sb t)=some (uY ok e n):=by
 have hr:PO E1 t:=⟨by show 0+_<=_;omega,by show 0+_<=_;omega,by show 0+_<=_;omega,fun x hx=>by cases hx⟩;have hrun:=h.ref ht 0 FUEL rfl (by omega) (by unfold FUEL;omega) hr (by omega) (by omega) (by omega);have he:=h.rn hr;have hn:=h.le;unfold kM;rw [bM,bz (by omega),bu];show(aI (bY (sb t)) FUEL (E1.ag,E1.aa,E1.ae,E1.ac,0,0,((0:Nat):Int))).bind _=_;rw [hrun];unfold uY;cases ok with
 |false=>rfl
 |true=>
  show(bif decide (n=0)then some (E1,0,3)else(fe e).bind fun r_1=>bif (!decide (r_1=0))then some (E1,n,r_1)else some (e,0,0))=_;by_cases h0:n=0;·subst h0;rw [bx rfl,ce (fun h=>by omega)];rfl
  ·have hsm:Small e:=⟨by have:=he.s;omega,by have:=he.l;omega,by have:=he.r;omega,fun x hx=>by have:=he.x x hx;omega⟩;rw [bz h0,bu,JG e hsm,br,ci ⟨rfl,by omega⟩];by_cases hc:oL e=0
   ·rw [bx hc,ci hc];rfl
   ·rw [bz hc,ce hc];rfl
def vo {σ ρ:Type} (body:σ->Option (bC σ ρ)):Nat->σ->Option σ
 |0,s=>some s
 |k+1,s=>match body s with
  |some (.next s')=>vo body k s'
  |_=>none
theorem mZ {σ ρ:Type} {body:σ->Option (bC σ ρ)}: ∀(k m:Nat) (s s':σ),vo body k s=some s'->aI body (m+k) s=aI body m s'
 |0,m,s,s',h=>by cases h;rfl
 |k+1,m,s,s',h=>by
  rw [vo]at h;rw [show m+(k+1)=(m+k)+1 from rfl,aF];split at h
  ·rename_i s1 h1;rw [h1];exact mZ k m s1 s' h
  ·cases h
def wY:af:=⟨3,[⟨0,1,500,0,20⟩,⟨2,2,300,0,40⟩],[⟨0,1,3,400,10,[⟨1000,400⟩,⟨5000,50⟩]⟩,⟨1,2,3,400,10,[]⟩],[⟨⟨1, -1⟩,100,1⟩]⟩
def exT:List UInt8:=[112,108,97,110,116,32,51,10,115,111,117,114,99,101,32,48,32,103,114,105,100,32,53,48,48,32,48,32,50,48,10,115,111,117,114,99,101,32,50,32,103,101,110,101,114,97,116,111,114,32,51,48,48,32,48,32,52,48,10,108,105,110,107,32,48,32,49,32,98,114,101,97,107,101,114,32,52,48,48,32,49,48,32,49,48,48,48,58,52,48,48,32,53,48,48,48,58,53,48,10,108,105,110,107,32,49,32,50,32,98,114,101,97,107,101,114,32,52,48,48,32,49,48,10,114,97,99,107,32,49,32,45,49,32,49,48,48,32,49,10]
theorem aaJ:kV=some wY:=by kernel_rfl
theorem VA:oZ wY=some (⟨exT.toArray⟩,0):=by kernel_rfl
theorem Yd:vo bV 8 0=some 8:=by kernel_rfl
theorem Yb:vo bV 8 8=some 16:=by kernel_rfl
theorem Ua:vo bV 8 16=some 24:=by kernel_rfl
theorem TJ:vo bV 8 24=some 32:=by kernel_rfl
theorem Vp:vo bV 8 32=some 40:=by kernel_rfl
theorem P8:aI bV FUEL 0=some (.brk ()):=by
 have h:aI bV (1+8+8+8+8+8) 0=some (.brk ()):=by
  rw [mZ 8 _ _ _ Yd,mZ 8 _ _ _ Yb,mZ 8 _ _ _ Ua,mZ 8 _ _ _ TJ,mZ 8 _ _ _ Vp];rfl
 exact rW h (by unfold FUEL;omega)
def acj (n:Int) (k:Nat):Bool:=decide (IntKind.wrap .i64 (((BitVec.ofInt (IntKind.bits .i64) (Int.fdiv n (2 ^ min k (IntKind.bits .i64))) &&& BitVec.ofInt (IntKind.bits .i64) 1).toNat:Int))=1)
def U5 (b:Nat->Bool):State:=⟨[b 0,b 1],[b 2,false],[b 3,b 4],[b 5,b 6],[b 7,b 8],[b 9,false,b 10],[b 11,b 12,b 13]⟩
def chain (s:State):Option Bool:=
 (gU wY s).bind fun r_6=>
 (jr wY s).bind fun r_7=>
 (gW wY s).bind fun r_8=>
 (jy wY s).bind fun r_9=>
 (bif gB [((bif (!decide (r_6.2=r_7.2))then true else(!decide (r_8.2=r_9.2))),false)]then dJ r_6.1 r_7.1 else some default).bind fun r_10=>
 (bif gB [((bif (bif (!decide (r_6.2=r_7.2))then true else(!decide (r_8.2=r_9.2)))then true else(!r_10)),false)]then fD r_8.1 r_9.1 else some default).bind fun r_11=>
 some (bif (bif (bif (!decide (r_6.2=r_7.2))then true else(!decide (r_8.2=r_9.2)))then true else(!r_10))then true else(!r_11))
def rJ:Nat->(List Bool->Bool)->Bool
 |0,f=>f []
 |k+1,f=>rJ k (fun l=>f (true::l)) && rJ k (fun l=>f (false::l))
theorem dN: ∀(k:Nat) (f:List Bool->Bool),rJ k f=true-> ∀l:List Bool,l.length=k->f l=true
 |0,f,h,l,hl=>by rw [List.length_eq_zero_iff.1 hl];exact h
 |k+1,f,h,l,hl=>by
  rw [rJ,cd]at h
  match l,hl with
  |true::l,hl=>exact dN k _ h.1 l (by simpa using hl)
  |false::l,hl=>exact dN k _ h.2 l (by simpa using hl)
def JL (o:Option Bool):Bool:=match o with|some false=>true|_=>false
def Jf (l:List Bool) (x y z:Bool):State:=⟨[l.getD 0 false,l.getD 1 false],[x,false],[l.getD 2 false,l.getD 3 false],[l.getD 4 false,l.getD 5 false],[l.getD 6 false,l.getD 7 false],[y,false,z],[l.getD 8 false,l.getD 9 false,l.getD 10 false]⟩
theorem UY (x y z:Bool):rJ 7 (fun l=>JL (chain (Jf (true::true::true::true::l) x y z)))=true:=by kernel_rfl
theorem UZ (x y z:Bool):rJ 7 (fun l=>JL (chain (Jf (true::true::true::false::l) x y z)))=true:=by kernel_rfl
theorem Ta (x y z:Bool):rJ 7 (fun l=>JL (chain (Jf (true::true::false::true::l) x y z)))=true:=by kernel_rfl
theorem UB (x y z:Bool):rJ 7 (fun l=>JL (chain (Jf (true::true::false::false::l) x y z)))=true:=by kernel_rfl
theorem TY (x y z:Bool):rJ 7 (fun l=>JL (chain (Jf (true::false::true::true::l) x y z)))=true:=by kernel_rfl
theorem Tz (x y z:Bool):rJ 7 (fun l=>JL (chain (Jf (true::false::true::false::l) x y z)))=true:=by kernel_rfl
theorem TR (x y z:Bool):rJ 7 (fun l=>JL (chain (Jf (true::false::false::true::l) x y z)))=true:=by kernel_rfl
theorem UO (x y z:Bool):rJ 7 (fun l=>JL (chain (Jf (true::false::false::false::l) x y z)))=true:=by kernel_rfl
theorem TM (x y z:Bool):rJ 7 (fun l=>JL (chain (Jf (false::true::true::true::l) x y z)))=true:=by kernel_rfl
theorem U7 (x y z:Bool):rJ 7 (fun l=>JL (chain (Jf (false::true::true::false::l) x y z)))=true:=by kernel_rfl
theorem Vd (x y z:Bool):rJ 7 (fun l=>JL (chain (Jf (false::true::false::true::l) x y z)))=true:=by kernel_rfl
theorem Vo (x y z:Bool):rJ 7 (fun l=>JL (chain (Jf (false::true::false::false::l) x y z)))=true:=by kernel_rfl
theorem TS (x y z:Bool):rJ 7 (fun l=>JL (chain (Jf (false::false::true::true::l) x y z)))=true:=by kernel_rfl
theorem TK (x y z:Bool):rJ 7 (fun l=>JL (chain (Jf (false::false::true::false::l) x y z)))=true:=by kernel_rfl
theorem UM (x y z:Bool):rJ 7 (fun l=>JL (chain (Jf (false::false::false::true::l) x y z)))=true:=by kernel_rfl
theorem Uq (x y z:Bool):rJ 7 (fun l=>JL (chain (Jf (false::false::false::false::l) x y z)))=true:=by kernel_rfl
theorem VB (x y z:Bool) (l:List Bool) (hl:l.length=11):JL (chain (Jf l x y z))=true:=by
 match l,hl with
 |a::b::c::d::l,hl=>
  have hm:l.length=7:=by simpa using hl
  cases a<;>cases b<;>cases c<;>cases d;·exact dN 7 _ (Uq x y z) l hm
  ·exact dN 7 _ (UM x y z) l hm
  ·exact dN 7 _ (TK x y z) l hm
  ·exact dN 7 _ (TS x y z) l hm
  ·exact dN 7 _ (Vo x y z) l hm
  ·exact dN 7 _ (Vd x y z) l hm
  ·exact dN 7 _ (U7 x y z) l hm
  ·exact dN 7 _ (TM x y z) l hm
  ·exact dN 7 _ (UO x y z) l hm
  ·exact dN 7 _ (TR x y z) l hm
  ·exact dN 7 _ (Tz x y z) l hm
  ·exact dN 7 _ (TY x y z) l hm
  ·exact dN 7 _ (UB x y z) l hm
  ·exact dN 7 _ (Ta x y z) l hm
  ·exact dN 7 _ (UZ x y z) l hm
  ·exact dN 7 _ (UY x y z) l hm
theorem Rq (b:Nat->Bool):chain (U5 b)=some false:=by
 have h:=VB (b 2) (b 9) (b 10) [b 0,b 1,b 3,b 4,b 5,b 6,b 7,b 8,b 11,b 12,b 13] rfl;have e:Jf [b 0,b 1,b 3,b 4,b 5,b 6,b 7,b 8,b 11,b 12,b 13] (b 2) (b 9) (b 10)=U5 b:=rfl;rw [e]at h;revert h;cases chain (U5 b)with
 |none=>intro h;cases h
 |some x=>
  cases x with
  |false=>intro _;rfl
  |true=>intro h;cases h
def Qc (s:State) (n:Int):Option (bC Int (Ex Unit Bool)):=
 (gU wY s).bind fun r_6=>
 (jr wY s).bind fun r_7=>
 (gW wY s).bind fun r_8=>
 (jy wY s).bind fun r_9=>
 (bif gB [((bif (!decide (r_6.2=r_7.2))then true else(!decide (r_8.2=r_9.2))),false)]then dJ r_6.1 r_7.1 else some default).bind fun r_10=>
 (bif gB [((bif (bif (!decide (r_6.2=r_7.2))then true else(!decide (r_8.2=r_9.2)))then true else(!r_10)),false)]then fD r_8.1 r_9.1 else some default).bind fun r_11=>
 bif (bif (bif (bif (!decide (r_6.2=r_7.2))then true else(!decide (r_8.2=r_9.2)))then true else(!r_10))then true else(!r_11))then some (.done (.ret false))else some (.next (IntKind.wrap .i64 (n+1)))
theorem QS (b:Nat->Bool) (n:Int):Qc (U5 b) n=some (.next (IntKind.wrap .i64 (n+1))):=by
 have h:=Rq b;unfold chain at h;unfold Qc;cases h6:gU wY (U5 b)with
 |none=>rw [h6]at h;cases h
 |some r6=>
 rw [h6,br]at h;rw [br];cases h7:jr wY (U5 b)with
 |none=>rw [h7]at h;cases h
 |some r7=>
 rw [h7,br]at h;rw [br];cases h8:gW wY (U5 b)with
 |none=>rw [h8]at h;cases h
 |some r8=>
 rw [h8,br]at h;rw [br];cases h9:jy wY (U5 b)with
 |none=>rw [h9]at h;cases h
 |some r9=>
 rw [h9,br]at h;rw [br];revert h;generalize (bif gB [((bif (!decide (r6.2=r7.2))then true else(!decide (r8.2=r9.2))),false)]then dJ r6.1 r7.1 else some default)=o10;cases o10 with
 |none=>intro h;cases h
 |some r10=>
 rw [br,br];generalize (bif gB [((bif (bif (!decide (r6.2=r7.2))then true else(!decide (r8.2=r9.2)))then true else(!r10)),false)]then fD r8.1 r9.1 else some default)=o11;cases o11 with
 |none=>intro h;cases h
 |some r11=>
 rw [br,br];intro h;rw [Option.some.inj h,bu]
theorem Nl (n:Int):jH wY n=bif decide (n<16384)then Qc (U5 (acj n)) n else some (.done (.brk ())):=by kernel_rfl
theorem Qk:aI (jH wY) FUEL 0=some (.brk ()):=by
 refine iK (N:=FUEL) (fun t=>(t:Int)) 16384 _ (by unfold FUEL;omega) (fun t ht=> ?_) ?_;·rw [Nl,bx (by omega),bt,QS,wr (by omega)];rfl
 ·rw [Nl,bz (by omega),bu]
theorem VP.aag {p:af} (h:VP p):XK p:=by
 have h1:=h.sl;have h2:=h.ll;have h3:=h.rl;refine⟨by omega,by omega,by omega,fun x hx=> ?_⟩;obtain⟨i,hi,rfl⟩:=qX hx;have:=(h.lnk i hi).tl;omega
theorem LB {t:List UInt8} (ht:t.length<=131072): ∃q n e,dX (sb t)=some (q,n,e)/\kM (sb t)=some (q,n,e)/\ic q q=some true:=by
 obtain⟨ok,e,m,hl⟩:=GA t.length t E1 0 0 (cx _);refine⟨(uY ok e m).1,(uY ok e m).2.1,(uY ok e m).2.2,KL ht hl,JD ht hl, ?_⟩;have hE:ic E1 E1=some true:=uR ⟨by simp [E1],by simp [E1],by simp [E1],fun x hx=>by cases hx⟩;unfold uY;by_cases hc:ok=true/\0<m
 ·rw [ci hc];by_cases h1:oL e=0
  ·rw [ci h1];exact uR (Ka.mp h1).aag
  ·rw [ce h1];exact hE
 ·rw [ce hc];exact hE
theorem X3 {a b c d e f:List UInt8} {t:Nat} (h:t<6) {k:Nat} (ha:a.length<=k) (hb:b.length<=k) (hc:c.length<=k) (hd:d.length<=k) (he:e.length<=k) (hf:f.length<=k): ∃x,at' [sb a,sb b,sb c,sb d,sb e,sb f] t=sb x/\x.length<=k:=by
 match t,h with
 |0,_=>exact⟨a,rfl,ha⟩
 |1,_=>exact⟨b,rfl,hb⟩
 |2,_=>exact⟨c,rfl,hc⟩
 |3,_=>exact⟨d,rfl,hd⟩
 |4,_=>exact⟨e,rfl,he⟩
 |5,_=>exact⟨f,rfl,hf⟩
theorem SA {T:List UInt8} {e:Int} (hT:T.length<=1000) {i:Nat} (hi:i<T.length):aI (gN (sb T,e) (i:Int)) FUEL 0=some (.brk ()):=by
 refine iK (N:=FUEL) (fun t=>(t:Int)) 6 _ (by unfold FUEL;omega) (fun t ht=> ?_) ?_
 ·unfold gN;dsimp only;rw [wr (x:=(i:Int)+1) (by omega),show((i:Int)+1).toNat=i+1 by omega,bw];simp only [MN,ql,wW,bM];obtain⟨x,hx,hxl⟩:=X3 (a:=(T.take i).drop 0) (b:=(T.take i).drop 0++(T.take T.length).drop (i+1)) (c:=((T.take i).drop 0++[32])++(T.take T.length).drop i) (d:=((T.take i).drop 0++[48])++(T.take T.length).drop i) (e:=((T.take i).drop 0++[10])++(T.take T.length).drop i) (f:=(T.take T.length).drop i) ht (k:=131072)
   (by simp;omega) (by simp;omega) (by simp;omega) (by simp;omega) (by simp;omega) (by simp;omega)
  obtain⟨q,n,z,h1,h2,h3⟩:=LB hxl;rw [bx (show(t:Int)<((List.length _:Nat):Int) by show(t:Int)<6;omega),bt,aJ (by show _/\(t:Int)<6;omega),bw,hx,h1,h2,br,br];dsimp only;rw [bx rfl,bx rfl,h3,wr (by omega)];rfl
 ·unfold gN;rfl
theorem RV {T:List UInt8} {e:Int} (hT:T.length<=1000):aI (gM (sb T,e)) FUEL 0=some (.brk ()):=by
 refine iK (N:=FUEL) (fun t=>(t:Int)) T.length _ (fuel_lt (by omega)) (fun i hi=> ?_) ?_
 ·unfold gM;dsimp only;rw [bM,bx (by omega),bt,SA hT hi,wr (x:=(i:Int)+1) (by omega),show((i:Int)+1).toNat=i+1 by omega,bw];simp only [MN,ql,wW,bM,b_,d8,d7,cX,List.length_nil];rw [aJ (by omega)];rfl
 ·unfold gM;dsimp only;rw [bM,bz (by omega),bu]
theorem Gl (n:Nat):qo (List.replicate n (0:Int))=sb (List.replicate n 0):=by
 unfold qo Ng sb;rw [List.map_replicate,List.map_replicate];rfl
theorem RU (n m:Nat) (h:m<=n):zy (List.replicate n (0:Int)) 0 m=List.replicate m 0:=by
 unfold zy;refine List.ext_getElem (by simp) fun i h1 h2=> ?_;have hi:i<m:=by simpa using h2
 simp only [List.getElem_map,List.getElem_range,List.getElem_replicate,Nat.add_zero];rw [jd (by simp;omega),List.getElem_replicate]
theorem Nk (n:Nat):((List.replicate n (0:Int)).map (DV.int .u8)).all qi=true:=by
 rw [List.map_replicate,List.all_eq_true];intro x hx;rw [(List.mem_replicate.1 hx).2];rfl
theorem OU:dX (sb (List.replicate 131073 0))=some (E1,0,2):=by
 unfold dX;rw [bM,dt,bx (by omega)];rfl
theorem O6:dX (sb (List.replicate 131072 0))=some (E1,0,3):=by
 have h:Lines (List.replicate 131072 0) E1 0 0 false E1 0:= .bad (fun e=>by have:=congrArg List.length e;rw [dt]at this;cases this) (fun e=>by have:=(List.mem_replicate.1 e).2;cases this) E1 0 0;rw [KL (by rw [dt];exact cx _) h];rfl
theorem Da:gI=some true:=by
 unfold gI;rw [P8,br];dsimp only;rw [aaJ,br,Qk,br];dsimp only;rw [VA,br,MN,RV (cj (by kernel_rfl)),br];dsimp only;rw [RU _ _ (by omega),Gl,Gl,OU,O6,dt,Nk,Nk,aJ (by omega),br,aJ ⟨by omega,rfl⟩,br,aJ ⟨by omega,by omega,rfl⟩,TW];rfl
end Sg
