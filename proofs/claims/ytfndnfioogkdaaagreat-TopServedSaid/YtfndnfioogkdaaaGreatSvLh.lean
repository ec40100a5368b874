import Derived.Test.YtfndnfioogkdaaaGreatSvLg
import Derived.Test.YtfndnfioogkdaaaGreatSvGm
set_option linter.all false
namespace Sg
open Go
def Kp (m:Nat) (a b:List bY):Prop:= ∀j u v t k,j<m→Pr a j u v t k→Pr b j u v t k
def QL (p:au) (s:State) (r:Nat):Nat:=1+(if iZ s (at' p.racks r).feeds.e0=true then 1 else 0)+(if iZ s (at' p.racks r).feeds.e1=true then 1 else 0)
def oK (p:au) (s:State):Nat→Nat
 |0=>0
 |k+1=>oK p s k+QL p s k
theorem yh (p:au) (s:State) (k:Nat):oK p s (k+1)=oK p s k+QL p s k:=rfl
theorem NF (p:au) (s:State) (r:Nat):1≤QL p s r∧QL p s r≤3:=by unfold QL;split<;>split<;>omega
theorem Rj (p:au) (s:State) (k:Nat):oK p s k≤3*k:=by
 induction k with
 |zero=>exact Nat.le_refl _
 |succ k ih=>rw [yh];have:=NF p s k;omega
theorem Kh {p:au} {s:State} {j k:Nat} (h:j<k):oK p s j+QL p s j≤oK p s k:=by
 induction k with
 |zero=>omega
 |succ k ih=>
  rw [yh]
  by_cases e:j=k
  ·subst e;exact Nat.le_refl _
  ·have:=ih (by omega);omega
def kN (p:au) (s:State) (o r:Nat) (c:Bool):Nat:=o+oK p s r+1+(if c=true∧iZ s (at' p.racks r).feeds.e0=true then 1 else 0)
def KX (p:au) (s:State) (o r:Nat):List (ah × Int):=if iZ s (at' p.racks r).feeds.e0=true then [(⟨(r:Int),0⟩,((2*kN p s o r false:Nat):Int))]else []
def Xd (p:au) (s:State) (o r:Nat):List (ah × Int):=if iZ s (at' p.racks r).feeds.e1=true then [(⟨(r:Int),1⟩,((2*kN p s o r true:Nat):Int))]else []
def GZ (p:au) (s:State) (o:Nat):Nat→List (ah × Int)
 |0=>[]
 |k+1=>GZ p s o k++KX p s o k++Xd p s o k
theorem zB {p:au} {s:State} {o:Nat}: ∀{k:Nat} {e:ah × Int},e∈GZ p s o k↔ ∃r,r<k∧((iZ s (at' p.racks r).feeds.e0=true∧e=(⟨(r:Int),0⟩,((2*kN p s o r false:Nat):Int)))∨(iZ s (at' p.racks r).feeds.e1=true∧e=(⟨(r:Int),1⟩,((2*kN p s o r true:Nat):Int))))
 |0,e=>by simp [GZ]
 |k+1,e=>by
  unfold GZ
  rw [List.mem_append,List.mem_append,zB]
  constructor
  ·rintro ((⟨i,h1,h2⟩|h)|h)
   ·exact⟨i,by omega,h2⟩
   ·unfold KX at h
    split at h
    ·rename_i hf;rw [List.mem_singleton]at h;exact⟨k,by omega, .inl ⟨hf,h⟩⟩
    ·cases h
   ·unfold Xd at h
    split at h
    ·rename_i hf;rw [List.mem_singleton]at h;exact⟨k,by omega, .inr ⟨hf,h⟩⟩
    ·cases h
  ·rintro ⟨i,h1,h2⟩
   by_cases e1:i=k
   ·subst e1
    rcases h2 with⟨hf,h⟩|⟨hf,h⟩
    ·left;right;unfold KX;rw [if_pos hf,List.mem_singleton];exact h
    ·right;unfold Xd;rw [if_pos hf,List.mem_singleton];exact h
   ·exact .inl (.inl ⟨i,by omega,h2⟩)
section
variable {p:au} {s:State} (hp:VP p) (hs:VS p s)
include hp hs
theorem RQ {m0:Nat} {a0:List bY} {fr0:List (List Int)} (hN0:NW (nodes p) m0 a0 fr0) (hm0:m0≤8): ∃a fr,aV (jZ p s p.sources) FUEL (a0,fr0,[],0)=some (.brk (p.links,a,fr,List.replicate p.links.length 0,Jb (bB p s) m0 p.links.length))∧NW (nodes p) (m0+jO (bB p s) p.links.length) a fr∧Kp m0 a0 a∧
  ∀k,k<p.links.length→bB p s k=true→Pr a (m0+jO (bB p s) k) (1+(at' p.links k).a.toNat) (1+(at' p.links k).b.toNat) (at' p.links k).most (at' p.links k).most:=by
 have hsl:=hp.ll;have hrl:=hp.rl;have hb:=hp.b
 have key:=r9 (body:=jZ p s p.sources)
  (fun z:List bY × List (List Int) × List (Int × Int) × Int=> ∃k:Nat,z.2.2.2=(k:Int)∧k≤p.links.length∧NW (nodes p) (m0+jO (bB p s) k) z.1 z.2.1∧z.2.2.1=Jb (bB p s) m0 k∧Kp m0 a0 z.1∧ ∀j,j<k→bB p s j=true→Pr z.1 (m0+jO (bB p s) j) (1+(at' p.links j).a.toNat) (1+(at' p.links j).b.toNat) (at' p.links j).most (at' p.links j).most)
  (fun z=>p.links.length - z.2.2.2.toNat)
  (fun r=> ∃a fr,r= .brk (p.links,a,fr,List.replicate p.links.length 0,Jb (bB p s) m0 p.links.length)∧NW (nodes p) (m0+jO (bB p s) p.links.length) a fr∧Kp m0 a0 a∧ ∀k,k<p.links.length→bB p s k=true→Pr a (m0+jO (bB p s) k) (1+(at' p.links k).a.toNat) (1+(at' p.links k).b.toNat) (at' p.links k).most (at' p.links k).most)
  (fun z hI=> ?_)
 ·obtain⟨r,e,a,fr,rfl,h⟩:=key FUEL (a0,fr0,[],0) ⟨0,rfl,by omega,hN0,rfl,fun j u v t k _ h=>h,fun j hj=>by omega⟩ (by show p.links.length - _<FUEL;unfold FUEL;omega)
  exact⟨a,fr,e,h⟩
 ·obtain⟨a,fr,mp,t⟩:=z
  obtain⟨k,rfl,hk,hN,hm,hKp,hP⟩:=hI
  dsimp only at hN hm hKp hP ⊢
  subst hm
  unfold jZ
  dsimp only
  by_cases hk2:k<p.links.length
  ·left
   have hv:=hp.lnk k hk2;have ha:=hv.a;have hbb:=hv.b;have hne:=hv.ab;have hw:=hv.most
   have hcl:=JA (bB p s) k
   have hc:jR ⟨p.buses,p.sources,p.links,p.racks⟩ s (k:Int)=some (bB p s k):=MR hp hs hk2
   rw [JR (by omega),cond_true,aH (by omega),hc,Option.bind_some,Int.toNat_natCast,wr (x:=(k:Int)+1) (by omega)]
   have h1:jO (bB p s) (k+1)=jO (bB p s) k+(if bB p s k=true then 1 else 0):=rfl
   have hm1:Jb (bB p s) m0 (k+1)=Jb (bB p s) m0 k++(if bB p s k=true then [((k:Int),((2*(m0+jO (bB p s) k):Nat):Int))]else []):=rfl
   cases hf:bB p s k with
   |false=>
    rw [hf,if_neg (by simp)]at h1 hm1
    rw [cond_false]
    refine⟨_,rfl,⟨k+1,by simp,by omega,by rw [h1];exact hN,by rw [hm1,List.append_nil],hKp,fun j hj hfj=> ?_⟩, ?_⟩
    ·by_cases e:j=k
     ·subst e;rw [hf]at hfj;cases hfj
     ·exact hP j (by omega) hfj
    ·show p.links.length - ((k:Int)+1).toNat<p.links.length - (k:Int).toNat
     omega
   |true=>
    rw [hf,if_pos rfl]at h1 hm1
    have e1:IntKind.wrap .i64 (1+(at' p.links k).a)=((1+(at' p.links k).a.toNat:Nat):Int):=by rw [wr (by omega)];omega
    have e2:IntKind.wrap .i64 (1+(at' p.links k).b)=((1+(at' p.links k).b.toNat:Nat):Int):=by rw [wr (by omega)];omega
    obtain⟨fr',g1,g2,g3⟩:=JM hN (u:=1+(at' p.links k).a.toNat) (v:=1+(at' p.links k).b.toNat) (t:=(at' p.links k).most) (k:=(at' p.links k).most) (by unfold nodes;omega) (by unfold nodes;omega) (by omega) (by omega) (by omega) (by omega) (by omega)
    rw [cond_true,e1,e2,g1,Option.bind_some]
    refine⟨_,rfl,⟨k+1,by simp,by omega,by rw [h1];exact g2, ?_,fun j u v t k hj h=>(hKp j u v t k hj h).app (by rw [hN.len];omega),fun j hj hfj=> ?_⟩, ?_⟩
    ·rw [hm1]
     exact Cy fun e he=>by
      obtain⟨i,h1,h2,rfl⟩:=Df.1 he
      exact EZ (by show(k:Int)≠(i:Int);omega)
    ·by_cases e:j=k
     ·subst e;exact g3
     ·refine(hP j (by omega) hfj).app ?_
      have:=wV (show j<k by omega) hfj
      rw [hN.len];omega
    ·show p.links.length - ((k:Int)+1).toNat<p.links.length - (k:Int).toNat
     omega
  ·right
   have:k=p.links.length:=by omega
   subst this
   rw [zN (by omega),cond_false,Int.toNat_natCast]
   exact⟨_,rfl,a,fr,rfl,hN,hKp,hP⟩
theorem Fw {m:Nat} {a:List bY} {fr:List (List Int)} (hN:NW (nodes p) m a fr) (hm:m+1≤1000) {r:Nat} (hr:r<p.racks.length) (mp:List (ah × Int)) {c:Nat} {b:Int} (hc:at' [(at' p.racks r).feeds.e0,(at' p.racks r).feeds.e1] c=b) (hc2:c<2) (hb1: -1≤b∧b<p.buses) (hnew: ∀e∈mp,e.1≠⟨(r:Int),(c:Int)⟩):
  ∃a' fr',ig p s p.racks (r:Int) (a,fr,mp,(c:Int))=some (.next (a',fr',mp++(if iZ s b=true then [(⟨(r:Int),(c:Int)⟩,((2*m:Nat):Int))]else []),((c+1:Nat):Int)))∧NW (nodes p) (m+(if iZ s b=true then 1 else 0)) a' fr'∧Kp m a a'∧(iZ s b=true→Pr a' m (1+b.toNat) (1+p.buses.toNat+r) (at' p.racks r).power 0):=by
 have hrl:=hp.rl;have hb:=hp.b
 have hw:=(hp.rck r hr).power
 have h4:=hs.badBus
 have hf:nO s b=some (iZ s b):=by
  unfold nO iZ
  rw [aH (fun h=> ⟨of_decide_eq_true (gB1 h),by omega⟩)]
  cases decide (0≤b)<;>rfl
 unfold ig
 dsimp only
 rw [Int.toNat_natCast,Int.toNat_natCast,JR (by omega),cond_true,aH (by omega),hc,hf,Option.bind_some,wr (x:=(c:Int)+1) (by omega)]
 cases hfb:iZ s b with
 |false=>
  refine⟨a,fr, ?_,hN,fun j u v t k _ h=>h,fun h=>by cases h⟩
  rw [if_neg (by simp),List.append_nil];rfl
 |true=>
  have hb0:0≤b:=by unfold iZ at hfb;rw [Bool.and_eq_true,decide_eq_true_eq]at hfb;exact hfb.1
  have e1:IntKind.wrap .i64 (1+b)=((1+b.toNat:Nat):Int):=by rw [wr (by omega)];omega
  have e2:IntKind.wrap .i64 (IntKind.wrap .i64 (1+p.buses)+(r:Int))=((1+p.buses.toNat+r:Nat):Int):=by rw [wr (x:=1+p.buses) (by omega),wr (by omega)];omega
  obtain⟨fr',g1,g2,g3⟩:=JM hN (u:=1+b.toNat) (v:=1+p.buses.toNat+r) (t:=(at' p.racks r).power) (k:=0) (by unfold nodes;omega) (by unfold nodes;omega) (by omega) (by omega) (by omega) (by omega) hm
  refine⟨_,fr', ?_,g2,fun j u v t k hj h=>h.app (by rw [hN.len];omega),fun _=>g3⟩
  rw [cond_true,e1,e2,g1,Option.bind_some,if_pos rfl]
  rw [Cy (fun e he=>by
   have:=hnew e he
   cases h1:(decide ((r:Int)=e.1.e0) && (decide ((c:Int)=e.1.e1) && true))with
   |false=>rfl
   |true=>
    rw [Bool.and_true,Bool.and_eq_true,decide_eq_true_eq,decide_eq_true_eq]at h1
    refine absurd ?_ this
    obtain⟨⟨x,y⟩,z⟩:=e
    obtain⟨rfl,rfl⟩:=h1;rfl)]
  rfl
theorem R8 {m0:Nat} {a0:List bY} {fr0:List (List Int)} (hN0:NW (nodes p) m0 a0 fr0) (hm0:m0≤48) (x2:List ah): ∃a fr,aV (jV p s) FUEL (p.racks,((1+p.buses.toNat+p.racks.length:Nat):Int),a0,fr0,x2,[],p.racks,(p.racks.length:Int),0)=some (.brk (p.racks,((1+p.buses.toNat+p.racks.length:Nat):Int),a,fr,x2,GZ p s m0 p.racks.length))∧NW (nodes p) (m0+oK p s p.racks.length) a fr∧Kp m0 a0 a∧
  ∀r,r<p.racks.length→Pr a (m0+oK p s r) (1+p.buses.toNat+r) (1+p.buses.toNat+p.racks.length) (at' p.racks r).power 0∧(iZ s (at' p.racks r).feeds.e0=true→Pr a (kN p s m0 r false) (1+(at' p.racks r).feeds.e0.toNat) (1+p.buses.toNat+r) (at' p.racks r).power 0)∧(iZ s (at' p.racks r).feeds.e1=true→Pr a (kN p s m0 r true) (1+(at' p.racks r).feeds.e1.toNat) (1+p.buses.toNat+r) (at' p.racks r).power 0):=by
 have hrl:=hp.rl;have hb:=hp.b
 have key:=r9 (body:=jV p s)
  (fun z:List aT × Int × List bY × List (List Int) × List ah × List (ah × Int) × List aT × Int × Int=> ∃k a fr,z=(p.racks,((1+p.buses.toNat+p.racks.length:Nat):Int),a,fr,x2,GZ p s m0 k,p.racks,(p.racks.length:Int),(k:Int))∧k≤p.racks.length∧NW (nodes p) (m0+oK p s k) a fr∧Kp m0 a0 a∧ ∀r,r<k→Pr a (m0+oK p s r) (1+p.buses.toNat+r) (1+p.buses.toNat+p.racks.length) (at' p.racks r).power 0∧(iZ s (at' p.racks r).feeds.e0=true→Pr a (kN p s m0 r false) (1+(at' p.racks r).feeds.e0.toNat) (1+p.buses.toNat+r) (at' p.racks r).power 0)∧(iZ s (at' p.racks r).feeds.e1=true→Pr a (kN p s m0 r true) (1+(at' p.racks r).feeds.e1.toNat) (1+p.buses.toNat+r) (at' p.racks r).power 0))
  (fun z=>p.racks.length - z.2.2.2.2.2.2.2.2.toNat)
  (fun q=> ∃a fr,q= .brk (p.racks,((1+p.buses.toNat+p.racks.length:Nat):Int),a,fr,x2,GZ p s m0 p.racks.length)∧NW (nodes p) (m0+oK p s p.racks.length) a fr∧Kp m0 a0 a∧ ∀r,r<p.racks.length→Pr a (m0+oK p s r) (1+p.buses.toNat+r) (1+p.buses.toNat+p.racks.length) (at' p.racks r).power 0∧(iZ s (at' p.racks r).feeds.e0=true→Pr a (kN p s m0 r false) (1+(at' p.racks r).feeds.e0.toNat) (1+p.buses.toNat+r) (at' p.racks r).power 0)∧(iZ s (at' p.racks r).feeds.e1=true→Pr a (kN p s m0 r true) (1+(at' p.racks r).feeds.e1.toNat) (1+p.buses.toNat+r) (at' p.racks r).power 0))
  (fun z hI=> ?_)
 ·obtain⟨r,e,a,fr,rfl,h⟩:=key FUEL (p.racks,((1+p.buses.toNat+p.racks.length:Nat):Int),a0,fr0,x2,[],p.racks,(p.racks.length:Int),0) ⟨0,a0,fr0,rfl,by omega,hN0,fun j u v t k _ h=>h,fun j hj=>by omega⟩ (by show p.racks.length - _<FUEL;unfold FUEL;omega)
  exact⟨a,fr,e,h⟩
 ·obtain⟨k,a,fr,rfl,hk,hN,hKp,hP⟩:=hI
  unfold jV
  dsimp only
  by_cases hk2:k<p.racks.length
  ·left
   have hv:=hp.rck k hk2;have ha:=hv.e0;have hbb:=hv.e1;have hne:=hv.ne;have hw:=hv.power
   have hcl:=Rj p s k
   have e2:IntKind.wrap .i64 (IntKind.wrap .i64 (1+p.buses)+(k:Int))=((1+p.buses.toNat+k:Nat):Int):=by rw [wr (x:=1+p.buses) (by omega),wr (by omega)];omega
   obtain⟨fr1,g1,g2,g3⟩:=JM hN (u:=1+p.buses.toNat+k) (v:=1+p.buses.toNat+p.racks.length) (t:=(at' p.racks k).power) (k:=0) (by unfold nodes;omega) (by unfold nodes;omega) (by omega) (by omega) (by omega) (by omega) (by omega)
   generalize hA1:a++[⟨((1+p.buses.toNat+p.racks.length:Nat):Int),(at' p.racks k).power⟩,⟨((1+p.buses.toNat+k:Nat):Int),0⟩]=A1 at g1 g2 g3
   have kp1:Kp (m0+oK p s k) a A1:=fun j u v t k hj h=>by rw [←hA1];exact h.app (by rw [hN.len];omega)
   obtain⟨A2,fr2,f1,f2,f3,f4⟩:=Fw hp hs g2 (by omega) hk2 (GZ p s m0 k) (c:=0) (b:=(at' p.racks k).feeds.e0) rfl (by omega) ⟨by omega,ha.2⟩ (fun e he q=>by
    obtain⟨i,h1,h2⟩:=zB.1 he
    rcases h2 with⟨_,rfl⟩|⟨_,rfl⟩
    ·have:(i:Int)=(k:Int):=congrArg ah.e0 q
     omega
    ·have:(i:Int)=(k:Int):=congrArg ah.e0 q
     omega)
   obtain⟨A3,fr3,d1,d2,d3,d4⟩:=Fw hp hs f2 (by split<;>omega) hk2 (GZ p s m0 k++KX p s m0 k) (c:=1) (b:=(at' p.racks k).feeds.e1) rfl (by omega) hbb (fun e he q=>by
    rw [List.mem_append]at he
    rcases he with he|he
    ·obtain⟨i,h1,h2⟩:=zB.1 he
     rcases h2 with⟨_,rfl⟩|⟨_,rfl⟩
     ·have:(i:Int)=(k:Int):=congrArg ah.e0 q
      omega
     ·have:(i:Int)=(k:Int):=congrArg ah.e0 q
      omega
    ·unfold KX at he
     split at he
     ·rw [List.mem_singleton]at he
      subst he
      have:(0:Int)=1:=congrArg ah.e1 q
      omega
     ·cases he)
   have i1:m0+oK p s k+1=kN p s m0 k false:=by unfold kN;rw [if_neg (by simp)]
   have i2:m0+oK p s k+1+(if iZ s (at' p.racks k).feeds.e0=true then 1 else 0)=kN p s m0 k true:=by
    unfold kN
    cases iZ s (at' p.racks k).feeds.e0<;>simp
   have hm1:GZ p s m0 k++(if iZ s (at' p.racks k).feeds.e0=true then [((⟨(k:Int),((0:Nat):Int)⟩:ah),((2*(m0+oK p s k+1):Nat):Int))]else [])=GZ p s m0 k++KX p s m0 k:=by rw [i1];rfl
   have hm2:GZ p s m0 k++KX p s m0 k++(if iZ s (at' p.racks k).feeds.e1=true then [((⟨(k:Int),((1:Nat):Int)⟩:ah),((2*(m0+oK p s k+1+(if iZ s (at' p.racks k).feeds.e0=true then 1 else 0)):Nat):Int))]else [])=GZ p s m0 (k+1):=by rw [i2];rfl
   rw [hm1]at f1
   rw [hm2]at d1
   have hN3:NW (nodes p) (m0+oK p s (k+1)) A3 fr3:=by
    have:m0+oK p s (k+1)=m0+oK p s k+1+(if iZ s (at' p.racks k).feeds.e0=true then 1 else 0)+(if iZ s (at' p.racks k).feeds.e1=true then 1 else 0):=by rw [yh];unfold QL;omega
    rw [this];exact d2
   have L3:aV (ig p s p.racks (k:Int)) FUEL (A1,fr1,GZ p s m0 k,0)=some (.brk (A3,fr3,GZ p s m0 (k+1))):=by
    refine iP (n:=3) ?_ (by unfold FUEL;omega)
    have f1':ig p s p.racks (k:Int) (A1,fr1,GZ p s m0 k,0)=_:=f1
    rw [bH,f1']
    show aV _ 2 (A2,fr2,GZ p s m0 k++KX p s m0 k,((1:Nat):Int))=_
    rw [bH,d1]
    show aV _ 1 (A3,fr3,GZ p s m0 (k+1),((2:Nat):Int))=_
    rw [bH]
    unfold ig
    rfl
   rw [JR (by omega),cond_true,aH (by omega),e2,Int.toNat_natCast,g1,Option.bind_some]
   dsimp only
   rw [L3,Option.bind_some,wr (x:=(k:Int)+1) (by omega)]
   refine⟨_,rfl,⟨k+1,A3,fr3,by simp,by omega,hN3,fun j u v t c hj h=>d3 j u v t c (by split<;>omega) (f3 j u v t c (by omega) (kp1 j u v t c (by omega) (hKp j u v t c hj h))),fun r hr=> ?_⟩, ?_⟩
   ·by_cases e:r=k
    ·subst e
     refine⟨d3 _ _ _ _ _ (by split<;>omega) (f3 _ _ _ _ _ (by omega) g3),fun h=>d3 _ _ _ _ _ (by rw [if_pos h,←i1];omega) (by rw [←i1];exact f4 h),fun h=>by rw [←i2];exact d4 h⟩
    ·have hlt:=Kh (p:=p) (s:=s) (show r<k by omega)
     have hwd:=NF p s r
     obtain⟨q1,q2,q3⟩:=hP r (by omega)
     have up: ∀j u v t c,j<m0+oK p s k→Pr a j u v t c→Pr A3 j u v t c:=fun j u v t c hj h=>d3 j u v t c (by split<;>omega) (f3 j u v t c (by omega) (kp1 j u v t c hj h))
     have hwd2:QL p s r=1+(if iZ s (at' p.racks r).feeds.e0=true then 1 else 0)+(if iZ s (at' p.racks r).feeds.e1=true then 1 else 0):=rfl
     refine⟨up _ _ _ _ _ (by omega) q1,fun h=>up _ _ _ _ _ ?_ (q2 h),fun h=>up _ _ _ _ _ ?_ (q3 h)⟩
     ·unfold kN;rw [if_pos h]at hwd2;rw [if_neg (by simp)];omega
     ·unfold kN;rw [if_pos h]at hwd2
      cases hx:iZ s (at' p.racks r).feeds.e0<;>rw [hx]at hwd2<;>simp at hwd2 ⊢ <;>omega
   ·show p.racks.length - ((k:Int)+1).toNat<p.racks.length - (k:Int).toNat
    omega
  ·right
   have:k=p.racks.length:=by omega
   subst this
   rw [zN (by omega),cond_false]
   exact⟨_,rfl,a,fr,rfl,hN,hKp,hP⟩
end
theorem Eg {σ:Type} [DecidableEq σ] {r:σ}: ∀{l:List (Option σ)},l≠[]→(∀x∈l,x=some r)→wM l=some r
 |[],h,_=>absurd rfl h
 |[a],_,h=>h a (List.mem_singleton_self a)
 |a::b::l,_,h=>by
  unfold wM
  have:=Eg (l:=b::l) (by simp) fun x hx=>h x (List.mem_cons_of_mem _ hx)
  rw [this,if_pos (h a List.mem_cons_self)]
  exact h a List.mem_cons_self
theorem Ei {σ:Type} (I:σ→Prop) (len:Nat) (upd:Nat→σ→σ) (hI: ∀s i,I s→i<len→I (upd i s)) (hc: ∀s i j,I s→i<len→j<len→upd i (upd j s)=upd j (upd i s)) {x:Nat} (hx:x<len): ∀(l:List Nat) (s:σ),I s→(∀y∈l,y<len)→x∈l→(l.erase x).foldl (fun s i=>upd i s) (upd x s)=l.foldl (fun s i=>upd i s) s
 |[],_,_,_,h=>by cases h
 |y::l,s,hs,hl,h=>by
  by_cases e:y=x
  ·subst e;rw [List.erase_cons_head];rfl
  ·have hyl:=hl y List.mem_cons_self
   rw [List.erase_cons_tail (by simpa using e),List.foldl_cons,List.foldl_cons,hc s y x hs hyl hx]
   exact Ei I len upd hI hc hx l (upd y s) (hI s y hs hyl) (fun z hz=>hl z (List.mem_cons_of_mem _ hz)) ((List.mem_cons.1 h).resolve_left (Ne.symm e))
theorem E8 {σ:Type} [DecidableEq σ] {body:σ→Nat→Option σ} (I:σ→Prop) (len:Nat) (upd:Nat→σ→σ) (hb: ∀s i,I s→i<len→body s i=some (upd i s)) (hI: ∀s i,I s→i<len→I (upd i s)) (hc: ∀s i j,I s→i<len→j<len→upd i (upd j s)=upd j (upd i s)):
  ∀(k:Nat) (l:List Nat) (s:σ),l.length=k→(∀y∈l,y<len)→I s→uD body k l s=some (l.foldl (fun s i=>upd i s) s)
 |0,l,s,hl,_,_=>by
  have:l=[]:=List.eq_nil_of_length_eq_zero hl
  subst this;rfl
 |k+1,l,s,hl,hlt,hs=>by
  unfold uD
  refine Eg (fun e=> ?_) fun o ho=> ?_
  ·have:=congrArg List.length e
   rw [List.length_map,hl]at this;cases this
  ·obtain⟨x,hx,rfl⟩:=List.mem_map.1 ho
   have hxl:=hlt x hx
   rw [hb s x hs hxl,Option.bind_some,E8 I len upd hb hI hc k (l.erase x) (upd x s) (by rw [List.length_erase_of_mem hx,hl];rfl) (fun y hy=>hlt y (List.mem_of_mem_erase hy)) (hI s x hs hxl),Ei I len upd hI hc hxl l s hs hlt hx]
theorem Qf (W:Nat→Int) (s:List Int) (i j:Nat):(s.set j (W j)).set i (W i)=(s.set i (W i)).set j (W j):=by
 by_cases e:i=j
 ·subst e;rfl
 ·exact List.set_comm _ _ (Ne.symm e)
theorem MJ (ks:Nat→Nat) (W:Nat→Int): ∀(l:List Nat) (s:List Int),(∀y∈l,ks y<s.length)→(l.foldl (fun s i=>s.set (ks i) (W (ks i))) s).length=s.length∧ ∀k,((∃y∈l,ks y=k)→at' (l.foldl (fun s i=>s.set (ks i) (W (ks i))) s) k=W k)∧((∀y∈l,ks y≠k)→at' (l.foldl (fun s i=>s.set (ks i) (W (ks i))) s) k=at' s k)
 |[],s,_=> ⟨rfl,fun k=> ⟨fun⟨y,hy,_⟩=>absurd hy List.not_mem_nil,fun _=>rfl⟩⟩
 |x::l,s,h=>by
  have hx:=h x List.mem_cons_self
  obtain⟨h1,h2⟩:=MJ ks W l (s.set (ks x) (W (ks x))) fun y hy=>by rw [List.length_set];exact h y (List.mem_cons_of_mem _ hy)
  rw [List.foldl_cons]
  refine⟨by rw [h1,List.length_set],fun k=> ⟨fun⟨y,hy,e⟩=> ?_,fun hn=> ?_⟩⟩
  ·by_cases q: ∃y∈l,ks y=k
   ·exact(h2 k).1 q
   ·rw [(h2 k).2 fun y hy e=>q ⟨y,hy,e⟩]
    rcases List.mem_cons.1 hy with rfl|hy
    ·subst e;exact dA hx
    ·exact absurd ⟨y,hy,e⟩ q
  ·rw [(h2 k).2 fun y hy=>hn y (List.mem_cons_of_mem _ hy)]
   exact bS (hn x List.mem_cons_self)
theorem Il {mp:List (Int × Int)} {f:Nat→Bool} {o N:Nat} (hmp:mp=Jb f o N) (W:Nat→Int) {body:List Int→Nat→Option (List Int)}
  (hb: ∀s i k,s.length=N→i<mp.length→k<N→f k=true→at' (mp.map Prod.fst) i=(k:Int)→at' (mp.map Prod.snd) i=((2*(o+jO f k):Nat):Int)→body s i=some (s.set k (W k))):
  uD body mp.length (List.range mp.length) (List.replicate N 0)=some (tab N fun k=>if f k=true then W k else 0):=by
 have ent: ∀i,i<mp.length→ ∃k,k<N∧f k=true∧at' (mp.map Prod.fst) i=(k:Int)∧at' (mp.map Prod.snd) i=((2*(o+jO f k):Nat):Int):=fun i hi=>by
  have hm:at' mp i∈Jb f o N:=hmp ▸ at_mem hi
  obtain⟨k,h1,h2,h3⟩:=Df.1 hm
  refine⟨k,h1,h2, ?_, ?_⟩
  ·rw [eG (by rw [List.length_map];exact hi),List.getElem_map,←eG hi,h3]
  ·rw [eG (by rw [List.length_map];exact hi),List.getElem_map,←eG hi,h3]
 have hks: ∀i,i<mp.length→(at' (mp.map Prod.fst) i).toNat<N:=fun i hi=>by
  obtain⟨k,h1,_,h3,_⟩:=ent i hi
  rw [h3];omega
 rw [E8 (fun s:List Int=>s.length=N) mp.length (fun i s=>s.set (at' (mp.map Prod.fst) i).toNat (W (at' (mp.map Prod.fst) i).toNat)) (fun s i hs hi=> ?_) (fun s i hs hi=>by rw [List.length_set];exact hs) (fun s i j _ _ _=>Qf W s _ _) mp.length (List.range mp.length) _ List.length_range (fun y hy=>List.mem_range.1 hy) (by simp)]
 ·congr 1
  obtain⟨h1,h2⟩:=MJ (fun i=>(at' (mp.map Prod.fst) i).toNat) W (List.range mp.length) (List.replicate N 0) fun y hy=>by rw [List.length_replicate];exact hks y (List.mem_range.1 hy)
  refine M6 (by rw [h1,cK,List.length_replicate]) fun k hk=> ?_
  rw [h1,List.length_replicate]at hk
  rw [wK hk]
  cases hf:f k with
  |true=>
   rw [if_pos rfl]
   refine(h2 k).1 ?_
   have hm:((k:Int),((2*(o+jO f k):Nat):Int))∈mp:=hmp ▸ Df.2 ⟨k,hk,hf,rfl⟩
   obtain⟨i,hi,e⟩:=j5 hm
   refine⟨i,List.mem_range.2 hi, ?_⟩
   show(at' (mp.map Prod.fst) i).toNat=k
   rw [eG (by rw [List.length_map];exact hi),List.getElem_map,←eG hi,e];rfl
  |false=>
   rw [if_neg (by simp),(h2 k).2 (fun y hy e=> ?_),fJ hk]
   obtain⟨k',_,h3,h4,_⟩:=ent y (List.mem_range.1 hy)
   have e:(at' (mp.map Prod.fst) y).toNat=k:=e
   rw [h4]at e
   have:k'=k:=by omega
   subst this
   rw [hf]at h3;cases h3
 ·obtain⟨k,h1,h2,h3,h4⟩:=ent i hi
  rw [hb s i k hs hi h1 h2 h3 h4,h3];rfl
def wI (s:List ah) (r:Nat) (c:Bool) (v:Int):List ah:=if c=true then s.set r ⟨(at' s r).e0,v⟩else s.set r ⟨v,(at' s r).e1⟩
theorem oo (s:List ah) (r:Nat) (c:Bool) (v:Int):(wI s r c v).length=s.length:=by unfold wI;split<;>simp
theorem CG {s:List ah} {r:Nat} (c:Bool) (v:Int) (hr:r<s.length) (k:Nat):(at' (wI s r c v) k).e0=(if k=r∧c=false then v else(at' s k).e0)∧(at' (wI s r c v) k).e1=(if k=r∧c=true then v else(at' s k).e1):=by
 unfold wI
 by_cases e:r=k
 ·subst e
  cases c
  ·rw [if_neg (by simp),dA hr];simp
  ·rw [if_pos rfl,dA hr];simp
 ·have e': ¬ k=r:=fun q=>e q.symm
  cases c
  ·rw [if_neg (by simp),bS e];simp [e']
  ·rw [if_pos rfl,bS e];simp [e']
theorem O1 {x y:ah} (h0:x.e0=y.e0) (h1:x.e1=y.e1):x=y:=by cases x;cases y;simp at h0 h1;rw [h0,h1]
theorem PV (W:Nat→Bool→Int) {s:List ah} {i j:Nat} {c d:Bool} (hi:i<s.length) (hj:j<s.length):wI (wI s j d (W j d)) i c (W i c)=wI (wI s i c (W i c)) j d (W j d):=by
 refine M6 (by rw [oo,oo,oo,oo]) fun k hk=> ?_
 have h1:=CG c (W i c) (s:=wI s j d (W j d)) (by rw [oo];exact hi) k
 have h2:=CG d (W j d) (s:=wI s i c (W i c)) (by rw [oo];exact hj) k
 have h3:=CG d (W j d) hj k
 have h4:=CG c (W i c) hi k
 refine O1 ?_ ?_
 ·rw [h1.1,h2.1,h3.1,h4.1]
  by_cases e1:k=i∧c=false<;>by_cases e2:k=j∧d=false
  ·obtain⟨rfl,rfl⟩:=e1;obtain⟨rfl,rfl⟩:=e2;rfl
  ·rw [if_pos e1,if_neg e2,if_pos e1]
  ·rw [if_neg e1,if_pos e2,if_pos e2]
  ·rw [if_neg e1,if_neg e2,if_neg e2,if_neg e1]
 ·rw [h1.2,h2.2,h3.2,h4.2]
  by_cases e1:k=i∧c=true<;>by_cases e2:k=j∧d=true
  ·obtain⟨rfl,rfl⟩:=e1;obtain⟨rfl,rfl⟩:=e2;rfl
  ·rw [if_pos e1,if_neg e2,if_pos e1]
  ·rw [if_neg e1,if_pos e2,if_pos e2]
  ·rw [if_neg e1,if_neg e2,if_neg e2,if_neg e1]
theorem IL (kr:Nat→Nat) (kc:Nat→Bool) (W:Nat→Bool→Int): ∀(l:List Nat) (s:List ah),(∀y∈l,kr y<s.length)→(l.foldl (fun s i=>wI s (kr i) (kc i) (W (kr i) (kc i))) s).length=s.length∧ ∀k,
  ((∃y∈l,kr y=k∧kc y=false)→(at' (l.foldl (fun s i=>wI s (kr i) (kc i) (W (kr i) (kc i))) s) k).e0=W k false)∧((∀y∈l, ¬ (kr y=k∧kc y=false))→(at' (l.foldl (fun s i=>wI s (kr i) (kc i) (W (kr i) (kc i))) s) k).e0=(at' s k).e0)∧
  ((∃y∈l,kr y=k∧kc y=true)→(at' (l.foldl (fun s i=>wI s (kr i) (kc i) (W (kr i) (kc i))) s) k).e1=W k true)∧((∀y∈l, ¬ (kr y=k∧kc y=true))→(at' (l.foldl (fun s i=>wI s (kr i) (kc i) (W (kr i) (kc i))) s) k).e1=(at' s k).e1)
 |[],s,_=> ⟨rfl,fun k=> ⟨fun⟨y,hy,_⟩=>absurd hy List.not_mem_nil,fun _=>rfl,fun⟨y,hy,_⟩=>absurd hy List.not_mem_nil,fun _=>rfl⟩⟩
 |x::l,s,h=>by
  have hx:=h x List.mem_cons_self
  obtain⟨h1,h2⟩:=IL kr kc W l (wI s (kr x) (kc x) (W (kr x) (kc x))) fun y hy=>by rw [oo];exact h y (List.mem_cons_of_mem _ hy)
  rw [List.foldl_cons]
  refine⟨by rw [h1,oo],fun k=> ?_⟩
  obtain⟨g1,g2,g3,g4⟩:=h2 k
  obtain⟨f1,f2⟩:=CG (kc x) (W (kr x) (kc x)) hx k
  refine⟨fun⟨y,hy,e⟩=> ?_,fun hn=> ?_,fun⟨y,hy,e⟩=> ?_,fun hn=> ?_⟩
  ·by_cases q: ∃y∈l,kr y=k∧kc y=false
   ·exact g1 q
   ·rw [g2 fun y hy e=>q ⟨y,hy,e⟩,f1]
    rcases List.mem_cons.1 hy with rfl|hy
    ·rw [if_pos ⟨e.1.symm,e.2⟩,e.1,e.2]
    ·exact absurd ⟨y,hy,e⟩ q
  ·rw [g2 fun y hy=>hn y (List.mem_cons_of_mem _ hy),f1,if_neg fun q=>hn x List.mem_cons_self ⟨q.1.symm,q.2⟩]
  ·by_cases q: ∃y∈l,kr y=k∧kc y=true
   ·exact g3 q
   ·rw [g4 fun y hy e=>q ⟨y,hy,e⟩,f2]
    rcases List.mem_cons.1 hy with rfl|hy
    ·rw [if_pos ⟨e.1.symm,e.2⟩,e.1,e.2]
    ·exact absurd ⟨y,hy,e⟩ q
  ·rw [g4 fun y hy=>hn y (List.mem_cons_of_mem _ hy),f2,if_neg fun q=>hn x List.mem_cons_self ⟨q.1.symm,q.2⟩]
section
variable {p:au} {s:State}
theorem NR {mp:List (ah × Int)} {o:Nat} (hmp:mp=GZ p s o p.racks.length) (W:Nat→Bool→Int) {body:List ah→Nat→Option (List ah)}
  (hb: ∀z i r c,z.length=p.racks.length→i<mp.length→r<p.racks.length→iZ s (if c=true then(at' p.racks r).feeds.e1 else(at' p.racks r).feeds.e0)=true→at' (mp.map Prod.fst) i=⟨(r:Int),if c=true then 1 else 0⟩→at' (mp.map Prod.snd) i=((2*kN p s o r c:Nat):Int)→body z i=some (wI z r c (W r c))):
  uD body mp.length (List.range mp.length) (List.replicate p.racks.length ⟨0,0⟩)=some (tab p.racks.length fun r=> ⟨if iZ s (at' p.racks r).feeds.e0=true then W r false else 0,if iZ s (at' p.racks r).feeds.e1=true then W r true else 0⟩):=by
 have ent: ∀i,i<mp.length→ ∃r c,r<p.racks.length∧iZ s (if c=true then(at' p.racks r).feeds.e1 else(at' p.racks r).feeds.e0)=true∧at' (mp.map Prod.fst) i=⟨(r:Int),if c=true then 1 else 0⟩∧at' (mp.map Prod.snd) i=((2*kN p s o r c:Nat):Int):=fun i hi=>by
  have hm:at' mp i∈GZ p s o p.racks.length:=hmp ▸ at_mem hi
  obtain⟨r,h1,h2⟩:=zB.1 hm
  have q1:at' (mp.map Prod.fst) i=(at' mp i).1:=by rw [eG (by rw [List.length_map];exact hi),List.getElem_map,←eG hi]
  have q2:at' (mp.map Prod.snd) i=(at' mp i).2:=by rw [eG (by rw [List.length_map];exact hi),List.getElem_map,←eG hi]
  rcases h2 with⟨hf,e⟩|⟨hf,e⟩
  ·exact⟨r,false,h1,hf,by rw [q1,e];rfl,by rw [q2,e]⟩
  ·exact⟨r,true,h1,hf,by rw [q1,e];rfl,by rw [q2,e]⟩
 have kcd: ∀(c:Bool),decide ((if c=true then(1:Int)else 0)=1)=c:=fun c=>by cases c<;>rfl
 rw [E8 (fun z:List ah=>z.length=p.racks.length) mp.length (fun i z=>wI z (at' (mp.map Prod.fst) i).e0.toNat (decide ((at' (mp.map Prod.fst) i).e1=1)) (W (at' (mp.map Prod.fst) i).e0.toNat (decide ((at' (mp.map Prod.fst) i).e1=1)))) (fun z i hz hi=> ?_) (fun z i hz hi=>by rw [oo];exact hz) (fun z i j hz hi hj=> ?_) mp.length (List.range mp.length) _ List.length_range (fun y hy=>List.mem_range.1 hy) (by simp)]
 ·congr 1
  obtain⟨h1,h2⟩:=IL (fun i=>(at' (mp.map Prod.fst) i).e0.toNat) (fun i=>decide ((at' (mp.map Prod.fst) i).e1=1)) W (List.range mp.length) (List.replicate p.racks.length ⟨0,0⟩) fun y hy=>by
   obtain⟨r,c,g1,_,g3,_⟩:=ent y (List.mem_range.1 hy)
   rw [List.length_replicate,g3]
   show(r:Int).toNat<_
   omega
  refine M6 (by rw [h1,cK,List.length_replicate]) fun k hk=> ?_
  rw [h1,List.length_replicate]at hk
  rw [wK hk]
  obtain⟨f1,f2,f3,f4⟩:=h2 k
  refine O1 ?_ ?_
  ·show _=if iZ s (at' p.racks k).feeds.e0=true then W k false else 0
   cases hf:iZ s (at' p.racks k).feeds.e0 with
   |true=>
    rw [if_pos rfl]
    have hm:((⟨(k:Int),0⟩:ah),((2*kN p s o k false:Nat):Int))∈mp:=hmp ▸ zB.2 ⟨k,hk, .inl ⟨hf,rfl⟩⟩
    obtain⟨i,hi,e⟩:=j5 hm
    refine f1 ⟨i,List.mem_range.2 hi, ?_⟩
    rw [eG (by rw [List.length_map];exact hi),List.getElem_map,←eG hi,e];exact⟨rfl,rfl⟩
   |false=>
    rw [if_neg (by simp),f2 fun y hy e=> ?_,fJ hk]
    obtain⟨r,c,_,g2,g3,_⟩:=ent y (List.mem_range.1 hy)
    rw [g3,kcd]at e
    have e1:(r:Int).toNat=k:=e.1
    have:r=k:=by omega
    subst this
    rw [e.2,if_neg (by simp),hf]at g2;cases g2
  ·show _=if iZ s (at' p.racks k).feeds.e1=true then W k true else 0
   cases hf:iZ s (at' p.racks k).feeds.e1 with
   |true=>
    rw [if_pos rfl]
    have hm:((⟨(k:Int),1⟩:ah),((2*kN p s o k true:Nat):Int))∈mp:=hmp ▸ zB.2 ⟨k,hk, .inr ⟨hf,rfl⟩⟩
    obtain⟨i,hi,e⟩:=j5 hm
    refine f3 ⟨i,List.mem_range.2 hi, ?_⟩
    rw [eG (by rw [List.length_map];exact hi),List.getElem_map,←eG hi,e];exact⟨rfl,rfl⟩
   |false=>
    rw [if_neg (by simp),f4 fun y hy e=> ?_,fJ hk]
    obtain⟨r,c,_,g2,g3,_⟩:=ent y (List.mem_range.1 hy)
    rw [g3,kcd]at e
    have e1:(r:Int).toNat=k:=e.1
    have:r=k:=by omega
    subst this
    rw [e.2,if_pos rfl,hf]at g2;cases g2
 ·obtain⟨r,c,h1,h2,h3,h4⟩:=ent i hi
  rw [hb z i r c hz hi h1 h2 h3 h4,h3,kcd];rfl
 ·obtain⟨r,c,h1,_,h3,_⟩:=ent i hi
  obtain⟨r',c',h1',_,h3',_⟩:=ent j hj
  rw [h3,h3',kcd,kcd]
  exact PV W (by rw [hz];show(r:Int).toNat<_;omega) (by rw [hz];show(r':Int).toNat<_;omega)
end
structure zY (p:au) (s:State) (m0 m1 m:Nat) (a b:List bY) (fr:List (List Int)) (R:Nat→Prop) (x:bX) (cut:List Bool):Prop where
 hN:NW (nodes p) m a fr
 sm:Sm m a b
 res: ∀v,v≠0→v≠1+p.buses.toNat+p.racks.length→lg m b v=lg m a v
 e0:m0=jO (bG p s) p.sources.length
 e1:m1=m0+jO (bB p s) p.links.length
 e2:m=m1+oK p s p.racks.length
 src: ∀k,k<p.sources.length→bG p s k=true→Pr a (jO (bG p s) k) 0 (1+(at' p.sources k).bus.toNat) (at' p.sources k).power 0
 lnk: ∀k,k<p.links.length→bB p s k=true→Pr a (m0+jO (bB p s) k) (1+(at' p.links k).a.toNat) (1+(at' p.links k).b.toNat) (at' p.links k).most (at' p.links k).most
 rck: ∀r,r<p.racks.length→Pr a (m1+oK p s r) (1+p.buses.toNat+r) (1+p.buses.toNat+p.racks.length) (at' p.racks r).power 0∧(iZ s (at' p.racks r).feeds.e0=true→Pr a (kN p s m1 r false) (1+(at' p.racks r).feeds.e0.toNat) (1+p.buses.toNat+r) (at' p.racks r).power 0)∧(iZ s (at' p.racks r).feeds.e1=true→Pr a (kN p s m1 r true) (1+(at' p.racks r).feeds.e1.toNat) (1+p.buses.toNat+r) (at' p.racks r).power 0)
 xe:x=⟨tab p.sources.length fun k=>if bG p s k=true then iB b (2*(0+jO (bG p s) k)+1)else 0,tab p.links.length fun k=>if bB p s k=true then(at' p.links k).most - iB b (2*(m0+jO (bB p s) k))else 0,tab p.racks.length fun r=> ⟨if iZ s (at' p.racks r).feeds.e0=true then iB b (2*kN p s m1 r false+1)else 0,if iZ s (at' p.racks r).feeds.e1=true then iB b (2*kN p s m1 r true+1)else 0⟩⟩
 clo:U0 m b R
 r0:R 0
 rs: ¬ R (1+p.buses.toNat+p.racks.length)
 mn: ∀K,U0 m b K→K 0→ ∀v,R v→K v
 cl:cut.length=p.buses.toNat
 ct: ∀v:Nat,(v:Int)<p.buses→(at' cut v=true↔R (v+1))
theorem kH (j:Nat):tw (2*j)=2*j+1:=by unfold tw;rw [if_pos (by omega)]
theorem yT (j:Nat):tw (2*j+1)=2*j:=by unfold tw;rw [if_neg (by omega)];omega
theorem Q5 {p:au} {s:State} {o r:Nat} (c:Bool) (hf:iZ s (if c=true then(at' p.racks r).feeds.e1 else(at' p.racks r).feeds.e0)=true):kN p s o r c<o+oK p s r+QL p s r:=by
 unfold kN QL
 cases c with
 |false=>
  rw [if_neg (by simp)]at hf
  rw [if_pos hf,if_neg (by simp)];omega
 |true=>
  rw [if_pos rfl]at hf
  rw [if_pos hf]
  cases iZ s (at' p.racks r).feeds.e0<;>simp
section
variable {p:au} {s:State} (hp:VP p) (hs:VS p s)
include hp hs
theorem Qi: ∃m0 m1 m a b fr R x cut,jd p s=some (x,cut,0)∧zY p s m0 m1 m a b fr R x cut:=by
 have hb:=hp.b;have hsl:=hp.sl;have hll:=hp.ll;have hrl:=hp.rl
 obtain⟨a0,fr0,l0,n0,p0⟩:=RN hp hs
 have c0:=JA (bG p s) p.sources.length
 have c1:=JA (bB p s) p.links.length
 have c2:=Rj p s p.racks.length
 obtain⟨a1,fr1,l1,n1,k1,p1⟩:=RQ hp hs n0 (by omega)
 obtain⟨a2,fr2,l2,n2,k2,p2⟩:=R8 hp hs n1 (by omega) (List.replicate p.racks.length ⟨0,0⟩)
 generalize hm0:jO (bG p s) p.sources.length=m0 at*
 generalize hm1:m0+jO (bB p s) p.links.length=m1 at*
 generalize hm2:m1+oK p s p.racks.length=m at*
 obtain⟨b,f1,sm,res,ap⟩:=Uu n2 (sink:=1+p.buses.toNat+p.racks.length) (by omega) (by unfold nodes;omega)
 have nb:=n2.same sm
 obtain⟨cut,r1,cl,R,clo,r0,rn,mn,ct⟩:=QB nb (p:=p) (by unfold nodes;omega)
 have hm:m≤1000:=n2.m1
 have lB: ∀j,j<2*m→0≤iB b j∧iB b j≤1000000:=fun j hj=>by
  have h1:=nb.left j hj;have h2:=nb.left _ (CY hj);omega
 have srcs: ∀k,k<p.sources.length→bG p s k=true→jO (bG p s) k<m:=fun k hk hf=>by
  have:=wV hk hf;omega
 have lnks: ∀k,k<p.links.length→bB p s k=true→m0+jO (bB p s) k<m:=fun k hk hf=>by
  have:=wV hk hf;omega
 have rcks: ∀r c,r<p.racks.length→iZ s (if c=true then(at' p.racks r).feeds.e1 else(at' p.racks r).feeds.e0)=true→kN p s m1 r c<m:=fun r c hr hf=>by
  have:=Q5 (o:=m1) c hf
  have:=Kh (p:=p) (s:=s) hr
  omega
 have x4:=Il (mp:=Jb (bG p s) 0 p.sources.length) rfl (fun k=>iB b (2*(0+jO (bG p s) k)+1)) (body:=mG (Jb (bG p s) 0 p.sources.length) ⟨b,fr2⟩) (fun z i k hz hi hk hf e1 e2=>by
  have:=srcs k hk hf
  unfold mG
  rw [e1,e2,xor_eq (by omega),kH,aH ⟨by rw [nb.len];omega,by omega⟩,Int.toNat_natCast,Int.toNat_natCast];rfl)
 have x5:=Il (mp:=Jb (bB p s) m0 p.links.length) rfl (fun k=>(at' p.links k).most - iB b (2*(m0+jO (bB p s) k))) (body:=mF p.links (Jb (bB p s) m0 p.links.length) ⟨b,fr2⟩) (fun z i k hz hi hk hf e1 e2=>by
  have:=lnks k hk hf
  have hw:=(hp.lnk k hk).most
  have hl:=lB (2*(m0+jO (bB p s) k)) (by omega)
  unfold mF
  rw [e1,e2,aH ⟨by omega,by rw [nb.len];omega,by omega⟩,Int.toNat_natCast,Int.toNat_natCast]
  show some (z.set k (IntKind.wrap .i64 ((at' p.links k).most - iB b (2*(m0+jO (bB p s) k)))))=_
  rw [wr (by omega)])
 have x6:=NR (p:=p) (s:=s) (mp:=GZ p s m1 p.racks.length) rfl (fun r c=>iB b (2*kN p s m1 r c+1)) (body:=mI (GZ p s m1 p.racks.length) ⟨b,fr2⟩) (fun z i r c hz hi hr hf e1 e2=>by
  have:=rcks r c hr hf
  unfold mI
  rw [e1,e2,xor_eq (by omega),kH]
  dsimp only
  have q1:((0:Int)≤((2*kN p s m1 r c+1:Nat):Int)∧((2*kN p s m1 r c+1:Nat):Int)<(b.length:Int))∧((0:Int)≤(r:Int)∧(r:Int)<(z.length:Int)):=⟨by rw [nb.len];omega,by omega⟩
  cases c with
  |false=>rw [if_neg (by simp),decide_eq_true rfl,cond_true,aH q1];rfl
  |true=>rw [if_pos rfl,decide_eq_false (by omega),cond_false,aH rfl,aH q1];rfl)
 refine⟨m0,m1,m,a2,b,fr2,R,_,cut, ?_,⟨n2,sm,res,hm0.symm,hm1.symm,hm2.symm,fun k hk hf=>k2 _ _ _ _ _ (by have:=wV hk hf;omega) (k1 _ _ _ _ _ (by have:=wV hk hf;omega) (p0 k hk hf)),fun k hk hf=>k2 _ _ _ _ _ (by have:=wV hk hf;omega) (p1 k hk hf),p2,rfl,clo,r0,fun h=> ?_,mn,cl,ct⟩⟩
 ·have e3:IntKind.wrap .i64 (IntKind.wrap .i64 (1+p.buses)+(p.racks.length:Int))=((1+p.buses.toNat+p.racks.length:Nat):Int):=by rw [wr (x:=1+p.buses) (by omega),wr (by omega)];omega
  have e4:IntKind.wrap .i64 (((1+p.buses.toNat+p.racks.length:Nat):Int)+1)=((nodes p:Nat):Int):=by unfold nodes;rw [wr (by omega)];omega
  have e5:nodes p≤100:=by unfold nodes;omega
  unfold jd
  rw [pq p s hp.small,uF.mpr ⟨hp,hs⟩,Option.bind_some,decide_eq_true rfl,Bool.not_true,cond_false,e3,e4,aH ⟨by omega,by omega,by omega⟩,aH ⟨by omega,by omega,by omega,by omega,by omega,by omega,by omega,by omega,by omega⟩,Int.toNat_natCast,l0]
  simp only [Option.bind_some]
  rw [l1]
  simp only [Option.bind_some]
  rw [Int.toNat_natCast,l2]
  simp only [Option.bind_some]
  rw [f1,Option.bind_some,x4,Option.bind_some,x5,Option.bind_some,x6,Option.bind_some,aH ⟨by omega,by omega,by omega⟩]
  unfold fU
  rw [Option.bind_some]
  have r1':dW b fr2 ⟨p.buses,p.sources,p.links,p.racks⟩ (List.replicate p.buses.toNat false)=some cut:=r1
  rw [r1',Option.bind_some]
 ·obtain⟨K,h1,h2,h3⟩:=ap
  exact h3 (mn K h1 h2 _ h)
end
structure Bd (p:au) (x:bX):Prop where
 l1:x.sources.length=p.sources.length
 l2:x.links.length=p.links.length
 l3:x.racks.length=p.racks.length
 s: ∀k,k<p.sources.length→0≤at' x.sources k∧at' x.sources k≤100000
 l: ∀i,i<p.links.length→ -100000≤at' x.links i∧at' x.links i≤100000
 r: ∀r,r<p.racks.length→(0≤(at' x.racks r).e0∧(at' x.racks r).e0≤100000)∧(0≤(at' x.racks r).e1∧(at' x.racks r).e1≤100000)
section
variable {p:au} {x:bX} (hp:VP p) (hx:Bd p x)
include hp hx
end
structure Ps (p:au) (s:State) (x:bX):Prop where
 l1:x.sources.length=p.sources.length
 l2:x.links.length=p.links.length
 l3:x.racks.length=p.racks.length
 sS: ∀k,k<p.sources.length→0≤at' x.sources k∧at' x.sources k≤(at' p.sources k).power∧(bG p s k=false→at' x.sources k=0)
 sL: ∀i,i<p.links.length→ -(at' p.links i).most≤at' x.links i∧at' x.links i≤(at' p.links i).most∧(bB p s i=false→at' x.links i=0)
 sR: ∀r,r<p.racks.length→0≤(at' x.racks r).e0∧0≤(at' x.racks r).e1∧(at' x.racks r).e0+(at' x.racks r).e1≤(at' p.racks r).power∧(iZ s (at' p.racks r).feeds.e0=false→(at' x.racks r).e0=0)∧(iZ s (at' p.racks r).feeds.e1=false→(at' x.racks r).e1=0)
 bl: ∀b:Nat,(b:Int)<p.buses→bal p x b=0
def QJ (p:au) (x:bX):Int:=bP p.racks.length fun r=>(at' x.racks r).e0+(at' x.racks r).e1
def Ud (p:au) (x:bX) (D:Nat→Bool) (k:Nat):Int:=if D (at' p.sources k).bus.toNat=true then 0 else at' x.sources k
def Qv (p:au) (x:bX) (D:Nat→Bool) (i:Nat):Int:=(if D (at' p.links i).a.toNat=true then at' x.links i else 0) - (if D (at' p.links i).b.toNat=true then at' x.links i else 0)
def Ns (p:au) (x:bX) (D:Nat→Bool) (r:Nat):Int:=(if D (at' p.racks r).feeds.e0.toNat=true then(at' x.racks r).e0 else 0)+(if 0≤(at' p.racks r).feeds.e1∧D (at' p.racks r).feeds.e1.toNat=true then(at' x.racks r).e1 else 0)
theorem yo {N:Nat} {D:Nat→Bool} {z v:Int} (hz:z<N):(bP N fun b=>if D b=true then(if z=(b:Int)then v else 0)else 0)=if 0≤z∧D z.toNat=true then v else 0:=by
 by_cases h0:0≤z
 ·have e:(fun b:Nat=>if D b=true then(if z=(b:Int)then v else 0)else 0)=fun b=>if b=z.toNat then(if D b=true then v else 0)else 0:=funext fun b=>by
   by_cases e1:b=z.toNat
   ·rw [if_pos e1,if_pos (show z=(b:Int) by omega)]
   ·rw [if_neg e1,if_neg (show ¬ z=(b:Int) by omega)];split<;>rfl
  rw [e,EU (fun b=>if D b=true then v else 0) (by omega)]
  by_cases e2:D z.toNat=true
  ·rw [if_pos e2,if_pos ⟨h0,e2⟩]
  ·rw [if_neg e2,if_neg fun q=>e2 q.2]
 ·rw [if_neg fun q=>h0 q.1,dJ (g:=fun _=>0) fun b _=>by rw [if_neg (show ¬ z=(b:Int) by omega)];split<;>rfl,lG]
section
variable {p:au} {s:State} (hp:VP p) (hs:VS p s) {x:bX} (hx:Ps p s x)
include hp hs hx
theorem Ov (D:Nat→Bool):(bP p.sources.length fun k=>if D (at' p.sources k).bus.toNat=true then at' x.sources k else 0)=(bP p.links.length (Qv p x D))+bP p.racks.length (Ns p x D):=by
 have hb:=hp.b
 have h0:(bP p.buses.toNat fun b=>if D b=true then bal p x b else 0)=0:=by
  rw [dJ (g:=fun _=>0) fun b hb=>by rw [hx.bl b (by omega)];split<;>rfl,lG]
 have e1:(fun b=>if D b=true then bal p x b else 0)=fun b=>((bP p.sources.length fun k=>if D b=true then YF p x b k else 0)+(bP p.links.length fun k=>if D b=true then Xo p x b k else 0)) - (bP p.racks.length fun k=>if D b=true then VY p x b k else 0):=funext fun b=>by
  cases D b with
  |true=>simp only [if_true];rfl
  |false=>simp [lG]
 rw [e1,Ca,yj,Eb,Eb p.buses.toNat p.links.length,Eb p.buses.toNat p.racks.length]at h0
 have s1:(bP p.sources.length fun k=>bP p.buses.toNat fun b=>if D b=true then YF p x b k else 0)=bP p.sources.length fun k=>if D (at' p.sources k).bus.toNat=true then at' x.sources k else 0:=by
  refine dJ fun k hk=> ?_
  have hv:=(hp.src k hk).bus
  unfold YF
  rw [yo (by omega)]
  by_cases h:D (at' p.sources k).bus.toNat=true
  ·rw [if_pos h,if_pos ⟨hv.1,h⟩]
  ·rw [if_neg h,if_neg fun q=>h q.2]
 have s2:(bP p.links.length fun k=>bP p.buses.toNat fun b=>if D b=true then Xo p x b k else 0)= - bP p.links.length (Qv p x D):=by
  rw [←FQ]
  refine dJ fun k hk=> ?_
  have hv:=hp.lnk k hk;have ha:=hv.a;have hbb:=hv.b
  have e:(fun b=>if D b=true then Xo p x b k else 0)=fun b=>(if D b=true then(if(at' p.links k).b=(b:Int)then at' x.links k else 0)else 0) - (if D b=true then(if(at' p.links k).a=(b:Int)then at' x.links k else 0)else 0):=funext fun b=>by
   unfold Xo;cases D b<;>simp
  rw [e,Ca,yo (by omega),yo (by omega)]
  unfold Qv
  cases D (at' p.links k).b.toNat<;>cases D (at' p.links k).a.toNat<;>simp [ha.1,hbb.1]
 have s3:(bP p.racks.length fun k=>bP p.buses.toNat fun b=>if D b=true then VY p x b k else 0)=bP p.racks.length (Ns p x D):=by
  refine dJ fun k hk=> ?_
  have hv:=hp.rck k hk;have ha:=hv.e0;have hbb:=hv.e1
  have e:(fun b=>if D b=true then VY p x b k else 0)=fun b=>(if D b=true then(if(at' p.racks k).feeds.e0=(b:Int)then(at' x.racks k).e0 else 0)else 0)+(if D b=true then(if(at' p.racks k).feeds.e1=(b:Int)then(at' x.racks k).e1 else 0)else 0):=funext fun b=>by
   unfold VY;cases D b<;>simp
  rw [e,yj,yo (by omega),yo (by omega)]
  unfold Ns
  cases D (at' p.racks k).feeds.e0.toNat<;>simp [ha.1]
 rw [s1,s2,s3]at h0
 omega
theorem DU (D:Nat→Bool):QJ p x=bP p.sources.length (Ud p x D)+bP p.links.length (Qv p x D)+bP p.racks.length (Ns p x D):=by
 have hb:=hp.b
 have h1:=Ov hp hs hx D
 have h2:=Ov hp hs hx fun _=>true
 have e1:(bP p.links.length (Qv p x fun _=>true))=0:=by
  rw [dJ (g:=fun _=>0) fun i _=>by unfold Qv;simp,lG]
 have e2:(bP p.racks.length (Ns p x fun _=>true))=QJ p x:=by
  refine dJ fun r hr=> ?_
  have hv:=hp.rck r hr;have hw:=hx.sR r hr
  unfold Ns
  rw [if_pos rfl]
  by_cases h:0≤(at' p.racks r).feeds.e1
  ·rw [if_pos ⟨h,rfl⟩]
  ·rw [if_neg fun q=>h q.1,hw.2.2.2.2 (by unfold iZ;rw [decide_eq_false h];rfl)]
 have e3:(bP p.sources.length fun k=>if(true:Bool)=true then at' x.sources k else 0)=(bP p.sources.length (Ud p x D))+bP p.sources.length fun k=>if D (at' p.sources k).bus.toNat=true then at' x.sources k else 0:=by
  rw [←yj]
  refine dJ fun k _=> ?_
  unfold Ud
  cases D (at' p.sources k).bus.toNat<;>simp
 have h2':(bP p.sources.length fun k=>if(true:Bool)=true then at' x.sources k else 0)=_:=h2
 rw [e3,e1,e2]at h2'
 omega
def K7 (p:au) (s:State) (D:Nat→Bool):Prop:= ∀b:Nat,(b:Int)<p.buses→D b=true→at' s.badBus b=false
omit hx in
theorem Ws {D:Nat→Bool} (hD:K7 p s D) {b:Int} (hb:0≤b∧b<p.buses) (h:D b.toNat=true):iZ s b=true:=by
 unfold iZ
 rw [decide_eq_true hb.1,hD b.toNat (by omega) h];rfl
theorem Wo {D:Nat→Bool} (hD:K7 p s D):(∀k,k<p.sources.length→Ud p x D k≤Nq p s D k)∧(∀i,i<p.links.length→Qv p x D i≤yC p s D i)∧ ∀r,r<p.racks.length→Ns p x D r≤Mi p D r:=by
 refine⟨fun k hk=> ?_,fun i hi=> ?_,fun r hr=> ?_⟩
 ·have h:=hx.sS k hk
  have hw:=(hp.src k hk).power
  unfold Ud Nq
  cases D (at' p.sources k).bus.toNat<;>cases hf:bG p s k<;>simp
  ·have:=h.2.2 hf;omega
  ·omega
 ·have h:=hx.sL i hi
  have hw:=(hp.lnk i hi).most
  unfold Qv yC
  cases hc:bB p s i
  ·have:=h.2.2 hc;rw [this];simp
  ·cases D (at' p.links i).a.toNat<;>cases D (at' p.links i).b.toNat<;>simp<;>omega
 ·have h:=hx.sR r hr
  have hv:=hp.rck r hr;have hw:=hv.power
  unfold Ns Mi Ub
  cases D (at' p.racks r).feeds.e0.toNat<;>cases D (at' p.racks r).feeds.e1.toNat<;>by_cases h1:0≤(at' p.racks r).feeds.e1<;>simp [h1]<;>omega
theorem Yk {D:Nat→Bool} (hD:K7 p s D):QJ p x≤AJ p s D:=by
 obtain⟨h1,h2,h3⟩:=Wo hp hs hx hD
 rw [DU hp hs hx D]
 have:=tX h1;have:=tX h2;have:=tX h3
 unfold AJ;omega
theorem PS {D:Nat→Bool} (hD:K7 p s D) (e:QJ p x=AJ p s D):(∀k,k<p.sources.length→Ud p x D k=Nq p s D k)∧(∀i,i<p.links.length→Qv p x D i=yC p s D i)∧ ∀r,r<p.racks.length→Ns p x D r=Mi p D r:=by
 obtain⟨h1,h2,h3⟩:=Wo hp hs hx hD
 rw [DU hp hs hx D]at e
 have q1:=tX h1;have q2:=tX h2;have q3:=tX h3
 unfold AJ at e
 exact⟨uY h1 (by omega),uY h2 (by omega),uY h3 (by omega)⟩
theorem JW {D:Nat→Bool} (h1: ∀k,k<p.sources.length→Ud p x D k=Nq p s D k) (h2: ∀i,i<p.links.length→Qv p x D i=yC p s D i) (h3: ∀r,r<p.racks.length→Ns p x D r=Mi p D r):QJ p x=AJ p s D:=by
 rw [DU hp hs hx D]
 unfold AJ
 rw [dJ h1,dJ h2,dJ h3]
end
theorem Ee (f:Nat→Int): ∀m,bP (2*m) f=bP m fun j=>f (2*j)+f (2*j+1)
 |0=>rfl
 |m+1=>by rw [show 2*(m+1)=2*m+1+1 by omega,bP,bP,bP,Ee f m];omega
theorem OH (p:au) (s:State) (g:Nat→Int) (o:Nat): ∀k,bP (o+oK p s k) g=bP o g+bP k fun r=>g (o+oK p s r)+(if iZ s (at' p.racks r).feeds.e0=true then g (kN p s o r false)else 0)+(if iZ s (at' p.racks r).feeds.e1=true then g (kN p s o r true)else 0)
 |0=>by simp [oK,bP]
 |k+1=>by
  have ih:=OH p s g o k
  have e:bP (o+oK p s (k+1)) g=bP (o+oK p s k) g+(g (o+oK p s k)+(if iZ s (at' p.racks k).feeds.e0=true then g (kN p s o k false)else 0)+(if iZ s (at' p.racks k).feeds.e1=true then g (kN p s o k true)else 0)):=by
   rw [yh]
   unfold QL kN
   cases h0:iZ s (at' p.racks k).feeds.e0<;>cases h1:iZ s (at' p.racks k).feeds.e1<;>simp
   ·rw [show o+(oK p s k+1)=(o+oK p s k)+1 by omega,bP]
   ·rw [show o+(oK p s k+(1+1))=(o+oK p s k)+1+1 by omega,bP,bP];omega
   ·rw [show o+(oK p s k+(1+1))=(o+oK p s k)+1+1 by omega,bP,bP];omega
   ·rw [show o+(oK p s k+(1+1+1))=(o+oK p s k)+1+1+1 by omega,bP,bP,bP,show o+oK p s k+2=o+oK p s k+1+1 from rfl];omega
  rw [e,ih,bP];omega
theorem DI {f:Nat→Bool}: ∀{k j:Nat},j<jO f k→ ∃i,i<k∧f i=true∧j=jO f i
 |0,j,h=>by simp [jO]at h
 |k+1,j,h=>by
  rw [BP]at h
  by_cases h2:j<jO f k
  ·obtain⟨i,h3,h4,h5⟩:=DI h2
   exact⟨i,by omega,h4,h5⟩
  ·split at h
   ·rename_i hf;exact⟨k,by omega,hf,by omega⟩
   ·omega
theorem Iy {p:au} {s:State} {o:Nat}: ∀{k j:Nat},o≤j→j<o+oK p s k→ ∃r,r<k∧(j=o+oK p s r∨(iZ s (at' p.racks r).feeds.e0=true∧j=kN p s o r false)∨(iZ s (at' p.racks r).feeds.e1=true∧j=kN p s o r true))
 |0,j,h0,h=>by simp [oK]at h;omega
 |k+1,j,h0,h=>by
  rw [yh]at h
  by_cases h2:j<o+oK p s k
  ·obtain⟨i,h3,h4⟩:=Iy h0 h2
   exact⟨i,by omega,h4⟩
  ·refine⟨k,by omega, ?_⟩
   unfold QL at h
   unfold kN
   cases e0:iZ s (at' p.racks k).feeds.e0<;>cases e1:iZ s (at' p.racks k).feeds.e1<;>simp [e0,e1]at h ⊢ <;>omega
section
variable {p:au} {s:State} {m0 m1 m:Nat} {a b:List bY} {fr:List (List Int)} {R:Nat→Prop} {x:bX} {cut:List Bool}
theorem zY.j1 (h:zY p s m0 m1 m a b fr R x cut) {k:Nat} (hk:k<p.sources.length) (hf:bG p s k=true):jO (bG p s) k<m:=by
 have:=wV hk hf;have:=h.e0;have:=h.e1;have:=h.e2;omega
theorem zY.j2 (h:zY p s m0 m1 m a b fr R x cut) {k:Nat} (hk:k<p.links.length) (hf:bB p s k=true):m0+jO (bB p s) k<m:=by
 have:=wV hk hf;have:=h.e1;have:=h.e2;omega
theorem zY.j3 (h:zY p s m0 m1 m a b fr R x cut) {r:Nat} (hr:r<p.racks.length):m1+oK p s r<m:=by
 have:=Kh (p:=p) (s:=s) hr;have:=NF p s r;have:=h.e2;omega
theorem zY.j4 (h:zY p s m0 m1 m a b fr R x cut) {r:Nat} (hr:r<p.racks.length) (c:Bool) (hf:iZ s (if c=true then(at' p.racks r).feeds.e1 else(at' p.racks r).feeds.e0)=true):kN p s m1 r c<m:=by
 have:=Q5 (o:=m1) c hf
 have:=Kh (p:=p) (s:=s) hr;have:=h.e2;omega
theorem zY.kinds (h:zY p s m0 m1 m a b fr R x cut) {j:Nat} (hj:j<m):
  (∃k,k<p.sources.length∧bG p s k=true∧j=jO (bG p s) k)∨(∃k,k<p.links.length∧bB p s k=true∧j=m0+jO (bB p s) k)∨
  ∃r,r<p.racks.length∧(j=m1+oK p s r∨(iZ s (at' p.racks r).feeds.e0=true∧j=kN p s m1 r false)∨(iZ s (at' p.racks r).feeds.e1=true∧j=kN p s m1 r true)):=by
 have e0:=h.e0;have e1:=h.e1;have e2:=h.e2
 by_cases h1:j<m0
 ·rw [e0]at h1;exact .inl (DI h1)
 ·by_cases h2:j<m1
  ·obtain⟨k,g1,g2,g3⟩:=DI (f:=bB p s) (k:=p.links.length) (j:=j - m0) (by omega)
   exact .inr (.inl ⟨k,g1,g2,by omega⟩)
  ·exact .inr (.inr (Iy (by omega) (by omega)))
theorem zY.pair (h:zY p s m0 m1 m a b fr R x cut) {j u v:Nat} {t k:Int} (hP:Pr a j u v t k) (hj:j<m):tgt a (2*j)=v∧tgt a (2*j+1)=u∧tgt b (2*j)=v∧tgt b (2*j+1)=u∧iB a (2*j)=t∧iB a (2*j+1)=k∧iB b (2*j)+iB b (2*j+1)=t+k∧0≤iB b (2*j)∧0≤iB b (2*j+1):=by
 have t1:tgt a (2*j)=v:=by unfold tgt;rw [hP.1];rfl
 have t2:tgt a (2*j+1)=u:=by unfold tgt;rw [hP.2];rfl
 have l1:iB a (2*j)=t:=by unfold iB;rw [hP.1]
 have l2:iB a (2*j+1)=k:=by unfold iB;rw [hP.2]
 have:=h.sm.sum (2*j) (by omega)
 rw [kH,l1,l2]at this
 exact⟨t1,t2,(h.sm.tgt _).trans t1,(h.sm.tgt _).trans t2,l1,l2,this,h.sm.pos _ (by omega),h.sm.pos _ (by omega)⟩
def dl (a b:List bY) (j:Nat):Int:=iB b (2*j+1) - iB a (2*j+1)
theorem zY.flow (h:zY p s m0 m1 m a b fr R x cut) {v:Nat} (h0:v≠0) (h1:v≠1+p.buses.toNat+p.racks.length):
  let g:=fun j=>(if tgt a (2*j+1)=v then dl a b j else 0) - (if tgt a (2*j)=v then dl a b j else 0)
  (bP p.sources.length fun k=>if bG p s k=true then g (jO (bG p s) k)else 0)+(bP p.links.length fun k=>if bB p s k=true then g (m0+jO (bB p s) k)else 0)+(bP p.racks.length fun r=>g (m1+oK p s r)+(if iZ s (at' p.racks r).feeds.e0=true then g (kN p s m1 r false)else 0)+(if iZ s (at' p.racks r).feeds.e1=true then g (kN p s m1 r true)else 0))=0:=by
 intro g
 have e:bP m g=0:=by
  have hr:=h.res v h0 h1
  unfold lg at hr
  rw [Ee,Ee]at hr
  have e1:bP m g=(bP m fun j=>(if tgt b (2*j)=v then iB b (2*j)else 0)+(if tgt b (2*j+1)=v then iB b (2*j+1)else 0)) - (bP m fun j=>(if tgt a (2*j)=v then iB a (2*j)else 0)+(if tgt a (2*j+1)=v then iB a (2*j+1)else 0)):=by
   rw [←Ca]
   refine dJ fun j hj=> ?_
   have hs:=h.sm.sum (2*j) (by omega)
   rw [kH]at hs
   show(if tgt a (2*j+1)=v then dl a b j else 0) - (if tgt a (2*j)=v then dl a b j else 0)=_
   rw [h.sm.tgt,h.sm.tgt]
   unfold dl
   by_cases c1:tgt a (2*j+1)=v<;>by_cases c2:tgt a (2*j)=v<;>simp only [c1,c2,if_true,if_false]<;>omega
  omega
 have d1:=OH p s g m1 p.racks.length
 rw [←h.e2]at d1
 have d2:=JO (bB p s) g m0 p.links.length
 rw [←h.e1]at d2
 have d3:=JO (bG p s) g 0 p.sources.length
 rw [Nat.zero_add,←h.e0]at d3
 have d4:(bP p.sources.length fun i=>if bG p s i=true then g (0+jO (bG p s) i)else 0)=bP p.sources.length fun k=>if bG p s k=true then g (jO (bG p s) k)else 0:=dJ fun i _=>by rw [Nat.zero_add]
 rw [d1,d2,d3,d4]at e
 simp only [bP]at e
 omega
variable (hp:VP p) (hs:VS p s)
include hp hs
theorem zY.xS (h:zY p s m0 m1 m a b fr R x cut) {k:Nat} (hk:k<p.sources.length):at' x.sources k=if bG p s k=true then dl a b (jO (bG p s) k)else 0:=by
 rw [h.xe]
 show at' (tab p.sources.length _) k=_
 rw [wK hk,Nat.zero_add]
 cases hf:bG p s k with
 |false=>rfl
 |true=>
  have:=h.pair (h.src k hk hf) (h.j1 hk hf)
  rw [if_pos rfl,if_pos rfl]
  unfold dl;omega
theorem zY.xL (h:zY p s m0 m1 m a b fr R x cut) {k:Nat} (hk:k<p.links.length):at' x.links k=if bB p s k=true then dl a b (m0+jO (bB p s) k)else 0:=by
 rw [h.xe]
 show at' (tab p.links.length _) k=_
 rw [wK hk]
 cases hf:bB p s k with
 |false=>rfl
 |true=>
  have:=h.pair (h.lnk k hk hf) (h.j2 hk hf)
  rw [if_pos rfl,if_pos rfl]
  unfold dl;omega
theorem zY.xR (h:zY p s m0 m1 m a b fr R x cut) {r:Nat} (hr:r<p.racks.length):(at' x.racks r).e0=(if iZ s (at' p.racks r).feeds.e0=true then dl a b (kN p s m1 r false)else 0)∧(at' x.racks r).e1=(if iZ s (at' p.racks r).feeds.e1=true then dl a b (kN p s m1 r true)else 0):=by
 have e:at' x.racks r=⟨if iZ s (at' p.racks r).feeds.e0=true then iB b (2*kN p s m1 r false+1)else 0,if iZ s (at' p.racks r).feeds.e1=true then iB b (2*kN p s m1 r true+1)else 0⟩:=by rw [h.xe];exact wK hr
 rw [e]
 obtain⟨_,q1,q2⟩:=h.rck r hr
 constructor
 ·show(if iZ s (at' p.racks r).feeds.e0=true then iB b (2*kN p s m1 r false+1)else 0)=_
  cases hf:iZ s (at' p.racks r).feeds.e0 with
  |false=>rfl
  |true=>
   have:=h.pair (q1 hf) (h.j4 hr false (by simpa using hf))
   rw [if_pos rfl,if_pos rfl]
   unfold dl;omega
 ·show(if iZ s (at' p.racks r).feeds.e1=true then iB b (2*kN p s m1 r true+1)else 0)=_
  cases hf:iZ s (at' p.racks r).feeds.e1 with
  |false=>rfl
  |true=>
   have:=h.pair (q2 hf) (h.j4 hr true (by simpa using hf))
   rw [if_pos rfl,if_pos rfl]
   unfold dl;omega
theorem zY.nG (h:zY p s m0 m1 m a b fr R x cut) {r:Nat} (hr:r<p.racks.length):(at' x.racks r).e0+(at' x.racks r).e1=dl a b (m1+oK p s r):=by
 have hb:=hp.b
 have f:=h.flow (v:=1+p.buses.toNat+r) (by omega) (by omega)
 dsimp only at f
 have z1:(bP p.sources.length fun k=>if bG p s k=true then(if tgt a (2*jO (bG p s) k+1)=1+p.buses.toNat+r then dl a b (jO (bG p s) k)else 0) - (if tgt a (2*jO (bG p s) k)=1+p.buses.toNat+r then dl a b (jO (bG p s) k)else 0)else 0)=0:=by
  rw [dJ (g:=fun _=>0) fun k hk=> ?_,lG]
  have hv:=(hp.src k hk).bus
  by_cases hf:bG p s k=true
  ·have:=h.pair (h.src k hk hf) (h.j1 hk hf)
   rw [if_pos hf,if_neg (by omega),if_neg (by omega)];rfl
  ·rw [if_neg hf]
 have z2:(bP p.links.length fun k=>if bB p s k=true then(if tgt a (2*(m0+jO (bB p s) k)+1)=1+p.buses.toNat+r then dl a b (m0+jO (bB p s) k)else 0) - (if tgt a (2*(m0+jO (bB p s) k))=1+p.buses.toNat+r then dl a b (m0+jO (bB p s) k)else 0)else 0)=0:=by
  rw [dJ (g:=fun _=>0) fun k hk=> ?_,lG]
  have ha:=(hp.lnk k hk).a;have hbb:=(hp.lnk k hk).b
  by_cases hf:bB p s k=true
  ·have:=h.pair (h.lnk k hk hf) (h.j2 hk hf)
   rw [if_pos hf,if_neg (by omega),if_neg (by omega)];rfl
  ·rw [if_neg hf]
 rw [z1,z2,dJ (g:=fun r'=>if r'=r then dl a b (m1+oK p s r) - ((at' x.racks r).e0+(at' x.racks r).e1)else 0) fun r' hr'=> ?_,EU (fun _=>dl a b (m1+oK p s r) - ((at' x.racks r).e0+(at' x.racks r).e1)) hr]at f
 ·omega
 ·obtain⟨q0,q1,q2⟩:=h.rck r' hr'
  have ha:=(hp.rck r' hr').e0;have hbb:=(hp.rck r' hr').e1
  have p0:=h.pair q0 (h.j3 hr')
  have x0:=h.xR hp hs hr'
  have c1:(if iZ s (at' p.racks r').feeds.e0=true then(if tgt a (2*kN p s m1 r' false+1)=1+p.buses.toNat+r then dl a b (kN p s m1 r' false)else 0) - (if tgt a (2*kN p s m1 r' false)=1+p.buses.toNat+r then dl a b (kN p s m1 r' false)else 0)else 0)=if r'=r then - (at' x.racks r').e0 else 0:=by
   by_cases hf:iZ s (at' p.racks r').feeds.e0=true
   ·have p1:=h.pair (q1 hf) (h.j4 hr' false (by simpa using hf))
    rw [if_pos hf,x0.1,if_pos hf,if_neg (show ¬ tgt a (2*kN p s m1 r' false+1)=1+p.buses.toNat+r by omega)]
    by_cases e:r'=r
    ·rw [if_pos (by omega),if_pos e];omega
    ·rw [if_neg (by omega),if_neg e];omega
   ·rw [if_neg hf,x0.1,if_neg hf];split<;>rfl
  have c2:(if iZ s (at' p.racks r').feeds.e1=true then(if tgt a (2*kN p s m1 r' true+1)=1+p.buses.toNat+r then dl a b (kN p s m1 r' true)else 0) - (if tgt a (2*kN p s m1 r' true)=1+p.buses.toNat+r then dl a b (kN p s m1 r' true)else 0)else 0)=if r'=r then - (at' x.racks r').e1 else 0:=by
   by_cases hf:iZ s (at' p.racks r').feeds.e1=true
   ·have p1:=h.pair (q2 hf) (h.j4 hr' true (by simpa using hf))
    rw [if_pos hf,x0.2,if_pos hf,if_neg (show ¬ tgt a (2*kN p s m1 r' true+1)=1+p.buses.toNat+r by omega)]
    by_cases e:r'=r
    ·rw [if_pos (by omega),if_pos e];omega
    ·rw [if_neg (by omega),if_neg e];omega
   ·rw [if_neg hf,x0.2,if_neg hf];split<;>rfl
  rw [c1,c2,if_neg (show ¬ tgt a (2*(m1+oK p s r'))=1+p.buses.toNat+r by omega)]
  by_cases e:r'=r
  ·subst e
   rw [if_pos (by omega),if_pos rfl,if_pos rfl,if_pos rfl];omega
  ·rw [if_neg (by omega),if_neg e,if_neg e,if_neg e];omega
theorem zY.ps (h:zY p s m0 m1 m a b fr R x cut):Ps p s x:=by
 have hb:=hp.b
 refine⟨by rw [h.xe];exact cK _ _,by rw [h.xe];exact cK _ _,by rw [h.xe];exact cK _ _,fun k hk=> ?_,fun k hk=> ?_,fun r hr=> ?_,fun v hv=> ?_⟩
 ·have hw:=(hp.src k hk).power
  rw [h.xS hp hs hk]
  by_cases hf:bG p s k=true
  ·have:=h.pair (h.src k hk hf) (h.j1 hk hf)
   rw [if_pos hf];unfold dl
   exact⟨by omega,by omega,fun q=>by rw [hf]at q;cases q⟩
  ·rw [if_neg hf];exact⟨by omega,by omega,fun _=>rfl⟩
 ·have hw:=(hp.lnk k hk).most
  rw [h.xL hp hs hk]
  by_cases hf:bB p s k=true
  ·have:=h.pair (h.lnk k hk hf) (h.j2 hk hf)
   rw [if_pos hf];unfold dl
   exact⟨by omega,by omega,fun q=>by rw [hf]at q;cases q⟩
  ·rw [if_neg hf];exact⟨by omega,by omega,fun _=>rfl⟩
 ·have hw:=(hp.rck r hr).power
  obtain⟨q0,q1,q2⟩:=h.rck r hr
  have p0:=h.pair q0 (h.j3 hr)
  have x0:=h.xR hp hs hr
  have x1:=h.nG hp hs hr
  have b0:0≤(at' x.racks r).e0:=by
   rw [x0.1]
   by_cases hf:iZ s (at' p.racks r).feeds.e0=true
   ·have:=h.pair (q1 hf) (h.j4 hr false (by simpa using hf))
    rw [if_pos hf];unfold dl;omega
   ·rw [if_neg hf];omega
  have b1:0≤(at' x.racks r).e1:=by
   rw [x0.2]
   by_cases hf:iZ s (at' p.racks r).feeds.e1=true
   ·have:=h.pair (q2 hf) (h.j4 hr true (by simpa using hf))
    rw [if_pos hf];unfold dl;omega
   ·rw [if_neg hf];omega
  refine⟨b0,b1,by rw [x1];unfold dl;omega,fun q=> ?_,fun q=> ?_⟩
  ·rw [x0.1,q];rfl
  ·rw [x0.2,q];rfl
 ·have f:=h.flow (v:=1+v) (by omega) (by omega)
  dsimp only at f
  rw [dJ (n:=p.sources.length) (g:=fun k=> - YF p x v k) fun k hk=> ?_,dJ (n:=p.links.length) (g:=fun k=> - Xo p x v k) fun k hk=> ?_,dJ (n:=p.racks.length) (g:=fun r=>VY p x v r) fun r hr=> ?_,FQ,FQ]at f
  ·unfold bal;show _+_ - bP _ (fun r=>VY p x v r)=0;omega
  ·obtain⟨q0,q1,q2⟩:=h.rck r hr
   have ha:=(hp.rck r hr).e0;have hbb:=(hp.rck r hr).e1
   have p0:=h.pair q0 (h.j3 hr)
   have x0:=h.xR hp hs hr
   unfold VY
   rw [if_neg (show ¬ tgt a (2*(m1+oK p s r)+1)=1+v by omega),if_neg (show ¬ tgt a (2*(m1+oK p s r))=1+v by omega)]
   have c1:(if iZ s (at' p.racks r).feeds.e0=true then(if tgt a (2*kN p s m1 r false+1)=1+v then dl a b (kN p s m1 r false)else 0) - (if tgt a (2*kN p s m1 r false)=1+v then dl a b (kN p s m1 r false)else 0)else 0)=if(at' p.racks r).feeds.e0=(v:Int)then(at' x.racks r).e0 else 0:=by
    by_cases hf:iZ s (at' p.racks r).feeds.e0=true
    ·have p1:=h.pair (q1 hf) (h.j4 hr false (by simpa using hf))
     rw [if_pos hf,x0.1,if_pos hf,if_neg (show ¬ tgt a (2*kN p s m1 r false)=1+v by omega)]
     by_cases e:(at' p.racks r).feeds.e0=(v:Int)
     ·rw [if_pos (by omega),if_pos e];omega
     ·rw [if_neg (by omega),if_neg e];omega
    ·rw [if_neg hf,x0.1,if_neg hf];split<;>rfl
   have c2:(if iZ s (at' p.racks r).feeds.e1=true then(if tgt a (2*kN p s m1 r true+1)=1+v then dl a b (kN p s m1 r true)else 0) - (if tgt a (2*kN p s m1 r true)=1+v then dl a b (kN p s m1 r true)else 0)else 0)=if(at' p.racks r).feeds.e1=(v:Int)then(at' x.racks r).e1 else 0:=by
    by_cases hf:iZ s (at' p.racks r).feeds.e1=true
    ·have p1:=h.pair (q2 hf) (h.j4 hr true (by simpa using hf))
     have hf0:0≤(at' p.racks r).feeds.e1:=by unfold iZ at hf;rw [Bool.and_eq_true,decide_eq_true_eq]at hf;exact hf.1
     rw [if_pos hf,x0.2,if_pos hf,if_neg (show ¬ tgt a (2*kN p s m1 r true)=1+v by omega)]
     by_cases e:(at' p.racks r).feeds.e1=(v:Int)
     ·rw [if_pos (by omega),if_pos e];omega
     ·rw [if_neg (by omega),if_neg e];omega
    ·rw [if_neg hf,x0.2,if_neg hf];split<;>rfl
   rw [c1,c2];omega
  ·have ha:=(hp.lnk k hk).a;have hbb:=(hp.lnk k hk).b;have hne:=(hp.lnk k hk).ab
   unfold Xo
   rw [h.xL hp hs hk]
   by_cases hf:bB p s k=true
   ·have:=h.pair (h.lnk k hk hf) (h.j2 hk hf)
    rw [if_pos hf,if_pos hf]
    by_cases e1:(at' p.links k).a=(v:Int)
    ·rw [if_pos (by omega),if_neg (by omega),if_neg (by omega),if_pos e1];omega
    ·rw [if_neg (by omega),if_neg (show ¬ (at' p.links k).a=(v:Int)from e1)]
     by_cases e2:(at' p.links k).b=(v:Int)
     ·rw [if_pos (by omega),if_pos e2];omega
     ·rw [if_neg (by omega),if_neg e2];omega
   ·rw [if_neg hf,if_neg hf];simp
  ·have hbus:=(hp.src k hk).bus
   unfold YF
   rw [h.xS hp hs hk]
   by_cases hf:bG p s k=true
   ·have:=h.pair (h.src k hk hf) (h.j1 hk hf)
    rw [if_pos hf,if_pos hf,if_neg (show ¬ tgt a (2*jO (bG p s) k+1)=1+v by omega)]
    by_cases e1:(at' p.sources k).bus=(v:Int)
    ·rw [if_pos (by omega),if_pos e1];omega
    ·rw [if_neg (by omega),if_neg e1];omega
   ·rw [if_neg hf,if_neg hf];simp
end
section
variable {p:au} {s:State} {m0 m1 m:Nat} {a b:List bY} {fr:List (List Int)} {R:Nat→Prop} {x:bX} {cut:List Bool} (hp:VP p) (hs:VS p s) (h:zY p s m0 m1 m a b fr R x cut)
include hp hs h
theorem zY.go (K:Nat→Prop)
  (hS: ∀k,k<p.sources.length→bG p s k=true→(K 0→at' x.sources k<(at' p.sources k).power→K (1+(at' p.sources k).bus.toNat))∧(K (1+(at' p.sources k).bus.toNat)→0<at' x.sources k→K 0))
  (hL: ∀k,k<p.links.length→bB p s k=true→(K (1+(at' p.links k).a.toNat)→at' x.links k<(at' p.links k).most→K (1+(at' p.links k).b.toNat))∧(K (1+(at' p.links k).b.toNat)→ -(at' p.links k).most<at' x.links k→K (1+(at' p.links k).a.toNat)))
  (hR: ∀r,r<p.racks.length→(K (1+p.buses.toNat+r)→(at' x.racks r).e0+(at' x.racks r).e1<(at' p.racks r).power→K (1+p.buses.toNat+p.racks.length))∧(K (1+p.buses.toNat+p.racks.length)→K (1+p.buses.toNat+r))∧
   (iZ s (at' p.racks r).feeds.e0=true→(K (1+(at' p.racks r).feeds.e0.toNat)→(at' x.racks r).e0<(at' p.racks r).power→K (1+p.buses.toNat+r))∧(K (1+p.buses.toNat+r)→0<(at' x.racks r).e0→K (1+(at' p.racks r).feeds.e0.toNat)))∧
   (iZ s (at' p.racks r).feeds.e1=true→(K (1+(at' p.racks r).feeds.e1.toNat)→(at' x.racks r).e1<(at' p.racks r).power→K (1+p.buses.toNat+r))∧(K (1+p.buses.toNat+r)→0<(at' x.racks r).e1→K (1+(at' p.racks r).feeds.e1.toNat)))):U0 m b K:=by
 intro i hi hl hK
 obtain⟨j,hj⟩: ∃j,i=2*j∨i=2*j+1:=⟨i / 2,by omega⟩
 have hjm:j<m:=by omega
 rcases h.kinds hjm with⟨k,hk,hf,rfl⟩|⟨k,hk,hf,rfl⟩|⟨r,hr,hc⟩
 ·have q:=h.pair (h.src k hk hf) hjm
  have xe:=h.xS hp hs hk
  rw [if_pos hf]at xe
  unfold dl at xe
  rcases hj with rfl|rfl
  ·rw [kH,q.2.2.2.1]at hK
   rw [q.2.2.1]
   exact(hS k hk hf).1 hK (by omega)
  ·rw [yT,q.2.2.1]at hK
   rw [q.2.2.2.1]
   exact(hS k hk hf).2 hK (by omega)
 ·have q:=h.pair (h.lnk k hk hf) hjm
  have xe:=h.xL hp hs hk
  rw [if_pos hf]at xe
  unfold dl at xe
  rcases hj with rfl|rfl
  ·rw [kH,q.2.2.2.1]at hK
   rw [q.2.2.1]
   exact(hL k hk hf).1 hK (by omega)
  ·rw [yT,q.2.2.1]at hK
   rw [q.2.2.2.1]
   exact(hL k hk hf).2 hK (by omega)
 ·obtain⟨q0,q1,q2⟩:=h.rck r hr
  obtain⟨x0,x1⟩:=h.xR hp hs hr
  have xr:=h.nG hp hs hr
  obtain⟨g1,g2,g3,g4⟩:=hR r hr
  rcases hc with rfl|⟨hf,rfl⟩|⟨hf,rfl⟩
  ·have q:=h.pair q0 hjm
   unfold dl at xr
   rcases hj with rfl|rfl
   ·rw [kH,q.2.2.2.1]at hK
    rw [q.2.2.1]
    exact g1 hK (by omega)
   ·rw [yT,q.2.2.1]at hK
    rw [q.2.2.2.1]
    exact g2 hK
  ·have q:=h.pair (q1 hf) hjm
   rw [if_pos hf]at x0
   unfold dl at x0
   rcases hj with rfl|rfl
   ·rw [kH,q.2.2.2.1]at hK
    rw [q.2.2.1]
    exact(g3 hf).1 hK (by omega)
   ·rw [yT,q.2.2.1]at hK
    rw [q.2.2.2.1]
    exact(g3 hf).2 hK (by omega)
  ·have q:=h.pair (q2 hf) hjm
   rw [if_pos hf]at x1
   unfold dl at x1
   rcases hj with rfl|rfl
   ·rw [kH,q.2.2.2.1]at hK
    rw [q.2.2.1]
    exact(g4 hf).1 hK (by omega)
   ·rw [yT,q.2.2.1]at hK
    rw [q.2.2.2.1]
    exact(g4 hf).2 hK (by omega)
theorem NA {k:Nat} (hf:bG p s k=true):at' s.badBus (at' p.sources k).bus.toNat=false:=by
 unfold bG at hf;simp only [Bool.and_eq_true,Bool.not_eq_true']at hf;exact hf.2
theorem Gm {k:Nat} (hf:bB p s k=true):at' s.badBus (at' p.links k).a.toNat=false∧at' s.badBus (at' p.links k).b.toNat=false:=by
 unfold bB at hf;simp only [Bool.and_eq_true,Bool.not_eq_true']at hf;exact⟨hf.1.2,hf.2⟩
theorem CU {v:Int} (hf:iZ s v=true):0≤v∧at' s.badBus v.toNat=false:=by
 unfold iZ at hf;simp only [Bool.and_eq_true,Bool.not_eq_true',decide_eq_true_eq]at hf;exact hf
theorem zY.right:K7 p s (at' cut):=by
 have hb:=hp.b
 intro v hv hc
 have hR:=(h.ct v hv).1 hc
 have key:=h.mn (fun w=> ∀u:Nat,(u:Int)<p.buses→w=1+u→at' s.badBus u=false) ?_ (fun u _ e=>by omega) _ hR v hv (by omega)
 ·exact key
 ·refine h.go hp hs _ (fun k hk hf=> ⟨fun _ _ u hu e=> ?_,fun _ _ u hu e=>by omega⟩) (fun k hk hf=> ⟨fun _ _ u hu e=> ?_,fun _ _ u hu e=> ?_⟩) (fun r hr=> ⟨fun _ _ u hu e=>by omega,fun _ u hu e=>by omega,fun hf=> ⟨fun _ _ u hu e=>by omega,fun _ _ u hu e=> ?_⟩,fun hf=> ⟨fun _ _ u hu e=>by omega,fun _ _ u hu e=> ?_⟩⟩)
  ·have:=NA hp hs h hf
   have e2:u=(at' p.sources k).bus.toNat:=by omega
   rw [e2];exact this
  ·have e2:u=(at' p.links k).b.toNat:=by omega
   rw [e2];exact(Gm hp hs h hf).2
  ·have e2:u=(at' p.links k).a.toNat:=by omega
   rw [e2];exact(Gm hp hs h hf).1
  ·have e2:u=(at' p.racks r).feeds.e0.toNat:=by omega
   rw [e2];exact(CU hp hs h hf).2
  ·have e2:u=(at' p.racks r).feeds.e1.toNat:=by omega
   rw [e2];exact(CU hp hs h hf).2
theorem zY.ZU {k:Nat} (hk:k<p.sources.length) (hf:bG p s k=true) (hc:at' cut (at' p.sources k).bus.toNat=false):at' x.sources k=(at' p.sources k).power:=by
 have hbus:=(hp.src k hk).bus
 have hj:=h.j1 hk hf
 have q:=h.pair (h.src k hk hf) hj
 have xe:=h.xS hp hs hk
 rw [if_pos hf]at xe
 unfold dl at xe
 refine Decidable.byContradiction fun hn=> ?_
 have:=h.clo (2*jO (bG p s) k) (by omega) (by omega) (by rw [kH,q.2.2.2.1];exact h.r0)
 rw [q.2.2.1,Nat.add_comm,←h.ct _ (by omega),hc]at this
 cases this
theorem zY.aai {k:Nat} (hk:k<p.links.length) (hf:bB p s k=true):(at' cut (at' p.links k).a.toNat=true→at' cut (at' p.links k).b.toNat=false→at' x.links k=(at' p.links k).most)∧(at' cut (at' p.links k).b.toNat=true→at' cut (at' p.links k).a.toNat=false→at' x.links k= -(at' p.links k).most):=by
 have hl:=hp.lnk k hk;have ha:=hl.a;have hb:=hl.b
 have hj:=h.j2 hk hf
 have q:=h.pair (h.lnk k hk hf) hj
 have xe:=h.xL hp hs hk
 rw [if_pos hf]at xe
 unfold dl at xe
 refine⟨fun c1 c2=>Decidable.byContradiction fun hn=> ?_,fun c1 c2=>Decidable.byContradiction fun hn=> ?_⟩
 ·have:=h.clo (2*(m0+jO (bB p s) k)) (by omega) (by omega) (by rw [kH,q.2.2.2.1,Nat.add_comm];exact(h.ct _ (by omega)).1 c1)
  rw [q.2.2.1,Nat.add_comm,←h.ct _ (by omega),c2]at this
  cases this
 ·have:=h.clo (2*(m0+jO (bB p s) k)+1) (by omega) (by omega) (by rw [yT,q.2.2.1,Nat.add_comm];exact(h.ct _ (by omega)).1 c1)
  rw [q.2.2.2.1,Nat.add_comm,←h.ct _ (by omega),c2]at this
  cases this
theorem zY.tight:(∀k,k<p.sources.length→Ud p x (at' cut) k=Nq p s (at' cut) k)∧(∀i,i<p.links.length→Qv p x (at' cut) i=yC p s (at' cut) i)∧ ∀r,r<p.racks.length→Ns p x (at' cut) r=Mi p (at' cut) r:=by
 have hps:=h.ps hp hs
 have hrt:=h.right hp hs
 refine⟨fun k hk=> ?_,fun i hi=> ?_,fun r hr=> ?_⟩
 ·unfold Ud Nq
  cases hc:at' cut (at' p.sources k).bus.toNat with
  |true=>simp
  |false=>
   cases hf:bG p s k with
   |true=>simp;exact h.ZU hp hs hk hf hc
   |false=>simp;exact(hps.sS k hk).2.2 hf
 ·unfold Qv yC
  cases hf:bB p s i with
  |false=>rw [(hps.sL i hi).2.2 hf];simp
  |true=>
   obtain⟨g1,g2⟩:=h.aai hp hs hi hf
   cases ca:at' cut (at' p.links i).a.toNat<;>cases cb:at' cut (at' p.links i).b.toNat<;>simp
   ·have:=g2 cb ca;omega
   ·exact g1 ca cb
 ·have hv:=hp.rck r hr;have ha:=hv.e0;have hb:=hv.e1;have hw:=hv.power
  obtain⟨w1,w2,w3,w4,w5⟩:=hps.sR r hr
  obtain⟨q0,q1,q2⟩:=h.rck r hr
  obtain⟨x0,x1⟩:=h.xR hp hs hr
  have xr:=h.nG hp hs hr
  unfold dl at xr
  have pr:=h.pair q0 (h.j3 hr)
  have hjr:=h.j3 hr
  unfold Ns Mi Ub
  have full:R (1+p.buses.toNat+r)→(at' x.racks r).e0+(at' x.racks r).e1=(at' p.racks r).power:=fun hR=>Decidable.byContradiction fun hn=>by
   have:=h.clo (2*(m1+oK p s r)) (by omega) (by omega) (by rw [kH,pr.2.2.2.1];exact hR)
   rw [pr.2.2.1]at this
   exact h.rs this
  have f0:at' cut (at' p.racks r).feeds.e0.toNat=true→iZ s (at' p.racks r).feeds.e0=true:=fun hc=>Ws hp hs hrt ha hc
  have f1:0≤(at' p.racks r).feeds.e1→at' cut (at' p.racks r).feeds.e1.toNat=true→iZ s (at' p.racks r).feeds.e1=true:=fun h0 hc=>Ws hp hs hrt ⟨h0,hb.2⟩ hc
  have in0:at' cut (at' p.racks r).feeds.e0.toNat=true→(at' x.racks r).e0=(at' p.racks r).power∨R (1+p.buses.toNat+r):=fun hc=>by
   have hf:=f0 hc
   have hj:=h.j4 hr false (by simpa using hf)
   have q:=h.pair (q1 hf) hj
   rw [if_pos hf]at x0
   unfold dl at x0
   by_cases hn:(at' x.racks r).e0=(at' p.racks r).power
   ·exact .inl hn
   ·have:=h.clo (2*kN p s m1 r false) (by omega) (by omega) (by rw [kH,q.2.2.2.1,Nat.add_comm];exact(h.ct _ (by omega)).1 hc)
    rw [q.2.2.1]at this
    exact .inr this
  have in1:0≤(at' p.racks r).feeds.e1→at' cut (at' p.racks r).feeds.e1.toNat=true→(at' x.racks r).e1=(at' p.racks r).power∨R (1+p.buses.toNat+r):=fun h0 hc=>by
   have hf:=f1 h0 hc
   have hj:=h.j4 hr true (by simpa using hf)
   have q:=h.pair (q2 hf) hj
   rw [if_pos hf]at x1
   unfold dl at x1
   by_cases hn:(at' x.racks r).e1=(at' p.racks r).power
   ·exact .inl hn
   ·have:=h.clo (2*kN p s m1 r true) (by omega) (by omega) (by rw [kH,q.2.2.2.1,Nat.add_comm];exact(h.ct _ (by omega)).1 hc)
    rw [q.2.2.1]at this
    exact .inr this
  have out0:R (1+p.buses.toNat+r)→at' cut (at' p.racks r).feeds.e0.toNat=false→(at' x.racks r).e0=0:=fun hR hc=>by
   cases hf:iZ s (at' p.racks r).feeds.e0 with
   |false=>exact w4 hf
   |true=>
    have hj:=h.j4 hr false (by simpa using hf)
    have q:=h.pair (q1 hf) hj
    rw [if_pos hf]at x0
    unfold dl at x0
    refine Decidable.byContradiction fun hn=> ?_
    have:=h.clo (2*kN p s m1 r false+1) (by omega) (by omega) (by rw [yT,q.2.2.1];exact hR)
    rw [q.2.2.2.1,Nat.add_comm,←h.ct _ (by omega),hc]at this
    cases this
  have out1:R (1+p.buses.toNat+r)→(0≤(at' p.racks r).feeds.e1→at' cut (at' p.racks r).feeds.e1.toNat=false)→(at' x.racks r).e1=0:=fun hR hc=>by
   cases hf:iZ s (at' p.racks r).feeds.e1 with
   |false=>exact w5 hf
   |true=>
    have h0:=(CU hp hs h hf).1
    have hj:=h.j4 hr true (by simpa using hf)
    have q:=h.pair (q2 hf) hj
    rw [if_pos hf]at x1
    unfold dl at x1
    refine Decidable.byContradiction fun hn=> ?_
    have:=h.clo (2*kN p s m1 r true+1) (by omega) (by omega) (by rw [yT,q.2.2.1];exact hR)
    rw [q.2.2.2.1,Nat.add_comm,←h.ct _ (by omega),hc h0]at this
    cases this
  by_cases h0:0≤(at' p.racks r).feeds.e1
  ·cases c0:at' cut (at' p.racks r).feeds.e0.toNat<;>cases c1:at' cut (at' p.racks r).feeds.e1.toNat<;>simp [h0]
   ·rcases in1 h0 c1 with e|e
    ·exact e
    ·have:=full e;have:=out0 e c0;omega
   ·rcases in0 c0 with e|e
    ·exact e
    ·have:=full e;have:=out1 e (fun _=>c1);omega
   ·rcases in0 c0 with e|e
    ·rcases in1 h0 c1 with e'|e'
     ·omega
     ·exact full e'
    ·exact full e
  ·cases c0:at' cut (at' p.racks r).feeds.e0.toNat<;>simp [h0]
   rcases in0 c0 with e|e
   ·exact e
   ·have:=full e;have:=out1 e (fun q=>absurd q h0);omega
theorem zY.ab0:QJ p x=AJ p s (at' cut):=by
 obtain⟨h1,h2,h3⟩:=h.tight hp hs
 exact JW hp hs (h.ps hp hs) h1 h2 h3
theorem zY.least {D:Nat→Bool} (hD:K7 p s D) (e:QJ p x=AJ p s D) {v:Nat} (hv:(v:Int)<p.buses) (hc:at' cut v=true):D v=true:=by
 have hb:=hp.b
 have hps:=h.ps hp hs
 obtain⟨t1,t2,t3⟩:=PS hp hs hps hD e
 have hR:=(h.ct v hv).1 hc
 have key:=h.mn (fun w=>(∀u:Nat,(u:Int)<p.buses→w=1+u→D u=true)∧(∀r,r<p.racks.length→w=1+p.buses.toNat+r→Ub p D r=true)∧w≠1+p.buses.toNat+p.racks.length) ?_ ⟨fun u _ e=>by omega,fun u _ e=>by omega,by omega⟩ _ hR
 ·exact key.1 v hv (by omega)
 ·refine h.go hp hs _ (fun k hk hf=> ?_) (fun k hk hf=> ?_) (fun r hr=> ?_)
  ·have hbus:=(hp.src k hk).bus
   refine⟨fun _ hl=> ⟨fun u hu e=> ?_,fun r hr e=>by omega,by omega⟩,fun _ _=> ⟨fun u _ e=>by omega,fun u _ e=>by omega,by omega⟩⟩
   have e2:u=(at' p.sources k).bus.toNat:=by omega
   have t:=t1 k hk
   unfold Ud Nq at t
   rw [e2]
   cases hc:D (at' p.sources k).bus.toNat with
   |true=>rfl
   |false=>rw [hc,hf]at t;simp at t;omega
  ·have ha:=(hp.lnk k hk).a;have hbb:=(hp.lnk k hk).b
   have t:=t2 k hk
   unfold Qv yC at t
   refine⟨fun hK hl=> ⟨fun u hu e=> ?_,fun r hr e=>by omega,by omega⟩,fun hK hl=> ⟨fun u hu e=> ?_,fun r hr e=>by omega,by omega⟩⟩
   ·have e2:u=(at' p.links k).b.toNat:=by omega
    have hA:=hK.1 (at' p.links k).a.toNat (by omega) rfl
    rw [e2]
    cases hc:D (at' p.links k).b.toNat with
    |true=>rfl
    |false=>rw [hc,hf,hA]at t;simp at t;omega
   ·have e2:u=(at' p.links k).a.toNat:=by omega
    have hB:=hK.1 (at' p.links k).b.toNat (by omega) rfl
    rw [e2]
    cases hc:D (at' p.links k).a.toNat with
    |true=>rfl
    |false=>rw [hc,hf,hB]at t;simp at t;omega
  ·have hv:=hp.rck r hr;have ha:=hv.e0;have hbb:=hv.e1;have hw:=hv.power
   have t:=t3 r hr
   obtain⟨w1,w2,w3,w4,w5⟩:=hps.sR r hr
   refine⟨fun hK hl=> ?_,fun hK=>absurd rfl hK.2.2,fun hf=> ⟨fun hK hl=> ⟨fun u hu e=>by omega,fun r' hr' e=> ?_,by omega⟩,fun hK hl=> ⟨fun u hu e=> ?_,fun r' hr' e=>by omega,by omega⟩⟩,fun hf=> ?_⟩
   ·have hC:=hK.2.1 r hr rfl
    unfold Ns Mi at t
    rw [hC,if_pos rfl]at t
    exfalso
    revert t
    split<;>split<;>omega
   ·have e2:r'=r:=by omega
    rw [e2]
    unfold Ub
    rw [hK.1 (at' p.racks r).feeds.e0.toNat (by omega) rfl];rfl
   ·have hC:=hK.2.1 r hr rfl
    have e2:u=(at' p.racks r).feeds.e0.toNat:=by omega
    unfold Ns Mi at t
    rw [hC,if_pos rfl]at t
    rw [e2]
    cases hc:D (at' p.racks r).feeds.e0.toNat with
    |true=>rfl
    |false=>
     exfalso
     rw [hc,if_neg (by simp)]at t
     revert t
     split<;>omega
   ·have h0:=(CU hp hs h hf).1
    refine⟨fun hK hl=> ⟨fun u hu e=>by omega,fun r' hr' e=> ?_,by omega⟩,fun hK hl=> ⟨fun u hu e=> ?_,fun r' hr' e=>by omega,by omega⟩⟩
    ·have e2:r'=r:=by omega
     rw [e2]
     unfold Ub
     rw [hK.1 (at' p.racks r).feeds.e1.toNat (by omega) rfl,decide_eq_true h0];simp
    ·have hC:=hK.2.1 r hr rfl
     have e2:u=(at' p.racks r).feeds.e1.toNat:=by omega
     unfold Ns Mi at t
     rw [hC,if_pos rfl]at t
     rw [e2]
     cases hc:D (at' p.racks r).feeds.e1.toNat with
     |true=>rfl
     |false=>
      exfalso
      rw [hc,if_neg (by simp: ¬ (0≤(at' p.racks r).feeds.e1∧(false:Bool)=true))]at t
      revert t
      split<;>omega
end
structure Sv (p:au) (s:State) (x:bX) (cut:List Bool):Prop where
 ps:Ps p s x
 cl:cut.length=p.buses.toNat
 rt:K7 p s (at' cut)
 eq:QJ p x=AJ p s (at' cut)
 least: ∀D,K7 p s D→QJ p x=AJ p s D→ ∀v:Nat,(v:Int)<p.buses→at' cut v=true→D v=true
theorem R6 {p:au} {s:State} (hp:VP p) (hs:VS p s): ∃x cut,jd p s=some (x,cut,0)∧Sv p s x cut:=by
 obtain⟨m0,m1,m,a,b,fr,R,x,cut,e,h⟩:=Qi hp hs
 exact⟨x,cut,e,h.ps hp hs,h.cl,h.right hp hs,h.ab0 hp hs,fun D hD e v hv hc=>h.least hp hs hD e hv hc⟩
theorem LD (x:Link) (h:x.trip.length≤1000):nM x=some x:=by
 unfold nM p8
 rw [aH (by omega)];rfl
theorem JD (p:au) (h1:p.sources.length≤60) (h2:p.links.length≤60) (h3:p.racks.length≤60) (h4: ∀x∈p.links,x.trip.length≤20):mJ p=some p:=by
 have key:aV (gJ p.links) FUEL (p.links.take 0,((0:Nat):Int))=some (.brk (p.links.take p.links.length)):=by
  refine eP (body:=gJ p.links) (fun t=>(p.links.take t,(t:Int))) p.links.length _ (fuel_lt (by omega)) (fun t ht=> ?_) ?_
  ·unfold gJ
   have d1:decide ((t:Int)<(p.links.length:Int))=true:=decide_eq_true (by omega)
   simp only [d1,cond_true,Int.toNat_natCast]
   have:=h4 _ (at_mem ht)
   rw [LD _ (by omega),Option.bind_some,aH ⟨by omega,by rw [List.length_take,List.length_singleton];omega,by rw [List.length_take,List.length_singleton];omega⟩,wr (by omega),qC ht]
   rfl
  ·unfold gJ
   have d1:decide ((p.links.length:Int)<(p.links.length:Int))=false:=decide_eq_false (by omega)
   simp only [d1,cond_false]
 have key':aV (gJ p.links) FUEL ([],0)=_:=key
 unfold mJ nT pU qc
 rw [aH (by omega),key',aH (by omega),List.take_length]
 rfl
theorem UD (x n:Int) (hn:1≤n∧n≤1000000): ∃b:Nat,wT x n=some (b:Int)∧(b:Int)<n:=by
 unfold wT
 have h1:decide (n<1)=false:=decide_eq_false (by omega)
 have h2:=Int.tmod_lt_of_pos x (show 0<n by omega)
 have h3: -n<x.tmod n:=by
  have:=Int.tmod_lt_of_pos (-x) (show 0<n by omega)
  rw [Int.neg_tmod]at this;omega
 rw [h1,cond_false,aH (by omega)]
 by_cases h:x.tmod n<0
 ·have:decide (x.tmod n<0)=true:=decide_eq_true h
  rw [this,cond_true,wr (by omega)]
  exact⟨(x.tmod n+n).toNat,by congr 1;omega,by omega⟩
 ·have:decide (x.tmod n<0)=false:=decide_eq_false h
  rw [this,cond_false]
  exact⟨(x.tmod n).toNat,by congr 1;omega,by omega⟩
theorem F6:uy=some true:=by kernel_rfl
theorem ES {f:Nat→Int}: ∀n,(∀i,i<n→0≤f i)→0≤bP n f∧ ∀i,i<n→f i≤bP n f
 |0,_=> ⟨Int.le_refl 0,fun i h=>by omega⟩
 |n+1,h=>by
  obtain⟨h1,h2⟩:=ES n fun i hi=>h i (by omega)
  have h3:=h n (by omega)
  rw [bP]
  refine⟨by omega,fun i hi=> ?_⟩
  by_cases e:i=n
  ·subst e;omega
  ·have:=h2 i (by omega);omega
theorem BR {f:Nat→Int}: ∀n,(∀i,i<n→f i=0)→bP n f=0
 |0,_=>rfl
 |n+1,h=>by
  rw [bP,BR n fun i hi=>h i (by omega),h n (by omega)];rfl
def lC (p:au) (k:Nat):au:=⟨p.buses,p.sources,p.links,[⟨(at' p.racks k).feeds,1,(at' p.racks k).paths⟩]⟩
section
variable {p:au} {s:State} (hp:VP p) (hs:VS p s) {k:Nat} (hk:k<p.racks.length)
include hp hk
theorem VP.one:VP (lC p k):=by
 have hr:=hp.rck k hk
 exact{hp with
  rl:=by show 1≤24;omega
  rck:=fun i hi=>by
   have:i=0:=by have hi:i<1:=hi;omega
   subst this
   exact⟨hr.e0,hr.e1,hr.ne,⟨by show(1:Int)≤1;omega,by show(1:Int)≤100000;omega⟩,hr.paths⟩}
omit hp hk in
theorem VS.one (hs:VS p s):VS (lC p k) s:=⟨hs.closed,hs.locked,hs.badLink,hs.on,hs.badSource,hs.earthed,hs.badBus,hs.cable⟩
include hs
theorem VJ {x:bX} {cut:List Bool} (h:Sv (lC p k) s x cut):QJ (lC p k) x=if Hy p s k=true then 1 else 0:=by
 have hq:=VP.one hp hk;have hqs:=VS.one (k:=k) hs
 have hr:=hp.rck k hk
 have hb:=hp.b
 have ha:QJ (lC p k) x=0+((at' x.racks 0).e0+(at' x.racks 0).e1):=rfl
 have hR:=h.ps.sR 0 (by show 0<1;omega)
 have hpw:(at' (lC p k).racks 0).power=1:=rfl
 by_cases hf:Hy p s k=true
 ·rw [if_pos hf]
  have hge:1≤AJ (lC p k) s (at' cut):=by
   have n1:=ES (f:=Nq (lC p k) s (at' cut)) (lC p k).sources.length fun i hi=>(XO hq _ hi).1
   have n2:=ES (f:=yC (lC p k) s (at' cut)) (lC p k).links.length fun i hi=>(Xf hq _ hi).1
   have n3:=ES (f:=Mi (lC p k) (at' cut)) (lC p k).racks.length fun i hi=>(Yz hq _ hi).1
   obtain⟨t,ht,h0,hbd,j,hj,hfe,l,wk⟩:=(Di hp hs hk).1 hf
   by_cases hz:1≤AJ (lC p k) s (at' cut)
   ·exact hz
   ·exfalso
    unfold AJ at hz
    have hS:at' cut (at' p.sources j).bus.toNat=true:=by
     have:=n1.2 j hj
     cases hc:at' cut (at' p.sources j).bus.toNat with
     |true=>rfl
     |false=>
      have hc':at' cut (at' (lC p k).sources j).bus.toNat=false:=hc
      have hfe':bG (lC p k) s j=true:=hfe
      have hpo:1≤(at' (lC p k).sources j).power:=(hp.src j hj).power.1
      have e:Nq (lC p k) s (at' cut) j=(at' (lC p k).sources j).power:=by unfold Nq;rw [hfe',hc'];exact if_pos rfl
      rw [e]at this
      omega
    have hW: ∀l b,Wk p s (at' p.sources j).bus.toNat l b→at' cut b=true:=fun l b wk=>by
     induction wk with
     |nil=>exact hS
     |snoc _ hi hc he ih=>
      rename_i l' v w i _
      have:=n2.2 i hi
      have hc':bB (lC p k) s i=true:=hc
      have hpo:1≤(at' (lC p k).links i).most:=(hp.lnk i hi).most.1
      cases hcw:at' cut w with
      |true=>rfl
      |false=>
       rcases he with⟨e1,e2⟩|⟨e1,e2⟩
       ·have a1:at' cut (at' (lC p k).links i).a.toNat=true:=by show at' cut (at' p.links i).a.toNat=true;rw [e1];exact ih
        have a2:at' cut (at' (lC p k).links i).b.toNat=false:=by show at' cut (at' p.links i).b.toNat=false;rw [e2];exact hcw
        have e:yC (lC p k) s (at' cut) i=(at' (lC p k).links i).most:=by unfold yC;rw [hc',a1,a2];exact if_pos rfl
        rw [e]at this
        omega
       ·have a1:at' cut (at' (lC p k).links i).b.toNat=true:=by show at' cut (at' p.links i).b.toNat=true;rw [e1];exact ih
        have a2:at' cut (at' (lC p k).links i).a.toNat=false:=by show at' cut (at' p.links i).a.toNat=false;rw [e2];exact hcw
        have e:yC (lC p k) s (at' cut) i=(at' (lC p k).links i).most:=by unfold yC;rw [hc',a1,a2];exact if_pos rfl
        rw [e]at this
        omega
    have hF:=hW l _ wk
    have:=n3.2 0 (by show 0<1;omega)
    have hrk:Ub (lC p k) (at' cut) 0=true:=by
     unfold Ub
     match t,ht with
     |0,_=>
      have hF:at' cut (at' p.racks k).feeds.e0.toNat=true:=hF
      show(at' cut (at' p.racks k).feeds.e0.toNat||_)=true
      rw [hF];rfl
     |1,_=>
      have hF:at' cut (at' p.racks k).feeds.e1.toNat=true:=hF
      have h0:0≤(at' p.racks k).feeds.e1:=h0
      show(_||(decide (0≤(at' p.racks k).feeds.e1) && at' cut (at' p.racks k).feeds.e1.toNat))=true
      rw [hF,decide_eq_true h0];simp
    have e:Mi (lC p k) (at' cut) 0=1:=by unfold Mi;rw [hrk,if_pos rfl];exact hpw
    rw [e]at this
    omega
  have:=h.eq
  omega
 ·rw [if_neg hf]
  have hL: ∀b:Nat,(b:Int)<p.buses→(at' (kJ p s) b=true↔mK p s b):=fun b h=>zn hp hs h
  have hle:=Yk hq hqs h.ps (D:=at' (kJ p s)) fun b hb' hD=>((hL b hb').1 hD).1
  have hz:AJ (lC p k) s (at' (kJ p s))=0:=by
   unfold AJ
   rw [BR _ fun i hi=> ?_,BR _ fun i hi=> ?_,BR _ fun i hi=> ?_]
   ·rfl
   ·have:i=0:=by have hi:i<1:=hi;omega
    subst this
    unfold Mi
    have hrk:Ub (lC p k) (at' (kJ p s)) 0=false:=by
     cases hh:Ub (lC p k) (at' (kJ p s)) 0 with
     |false=>rfl
     |true=>
      exfalso;apply hf
      refine(Di hp hs hk).2 ?_
      have hh:(at' (kJ p s) (at' p.racks k).feeds.e0.toNat||(decide (0≤(at' p.racks k).feeds.e1) && at' (kJ p s) (at' p.racks k).feeds.e1.toNat))=true:=hh
      have r0:=hr.e0;have r1:=hr.e1
      rw [Bool.or_eq_true,Bool.and_eq_true]at hh
      rcases hh with q|⟨q,q2⟩
      ·exact⟨0,by omega,r0.1,(hL (at' p.racks k).feeds.e0.toNat (by omega)).1 q⟩
      ·have q:=of_decide_eq_true q
       exact⟨1,by omega,q,(hL (at' p.racks k).feeds.e1.toNat (by omega)).1 q2⟩
    rw [hrk];rfl
   ·have hli:=hp.lnk i hi;have la:=hli.a;have lb:=hli.b
    unfold yC
    refine if_neg fun hc=> ?_
    rw [Bool.and_eq_true]at hc
    obtain⟨c1,c2⟩:=hc
    have c1:bB p s i=true:=c1
    have ext: ∀x y:Nat,mK p s x→((at' p.links i).a.toNat=x∧(at' p.links i).b.toNat=y∨(at' p.links i).b.toNat=x∧(at' p.links i).a.toNat=y)→mK p s y:=fun x y hl he=>by
     obtain⟨_,m,hm,hfm,l,wk⟩:=hl
     refine⟨?_,m,hm,hfm,_, .snoc wk hi c1 he⟩
     have c1:=c1
     unfold bB at c1
     simp only [Bool.and_eq_true,Bool.not_eq_true']at c1
     rcases he with⟨_,e⟩|⟨_,e⟩
     ·rw [←e];exact c1.2
     ·rw [←e];exact c1.1.2
    have e:at' (kJ p s) (at' p.links i).a.toNat=at' (kJ p s) (at' p.links i).b.toNat:=by
     rw [Bool.eq_iff_iff,hL _ (by omega),hL _ (by omega)]
     exact⟨fun h=>ext _ _ h (.inl ⟨rfl,rfl⟩),fun h=>ext _ _ h (.inr ⟨rfl,rfl⟩)⟩
    have c2:(!(at' (kJ p s) (at' p.links i).a.toNat==at' (kJ p s) (at' p.links i).b.toNat))=true:=c2
    rw [e]at c2
    simp at c2
   ·have hbu:=(hp.src i hi).bus
    unfold Nq
    refine if_neg fun hc=> ?_
    rw [Bool.and_eq_true]at hc
    obtain⟨c1,c2⟩:=hc
    have c1:bG p s i=true:=c1
    have c2:(!at' (kJ p s) (at' p.sources i).bus.toNat)=true:=c2
    have:at' (kJ p s) (at' p.sources i).bus.toNat=true:=(hL _ (by omega)).2 ⟨by
     have c1:=c1
     unfold bG at c1
     simp only [Bool.and_eq_true,Bool.not_eq_true']at c1
     exact c1.2,i,hi,c1,[], .nil⟩
    rw [this]at c2;cases c2
  omega
theorem PW {x:bX} (h:Ps p s x):j6 x=some (QJ p x):=by
 have hrl:=hp.rl
 rw [PZ (by rw [h.l3];omega),OC (fun r hr=> ?_) (by rw [h.l3];omega) _ (Nat.le_refl _),h.l3]
 ·rfl
 ·rw [h.l3]at hr
  have:=h.sR r hr
  have:=(hp.rck r hr).power
  omega
end
theorem Gw (p:au) (s:State) (n:Int) (hp:Small p):mE p s n=some true:=by
 unfold mE Ba
 rw [Option.bind_some]
 cases hB:(bif (bif (decide (60<(p.sources.length:Int)))then true else(decide (60<(p.links.length:Int))))then true else(decide (60<(p.racks.length:Int))))with
 |true=>simp [gB,F6]
 |false=>
  rw [cond_false]
  by_cases hz:(p.racks.length:Int)=0
  ·rw [decide_eq_true hz];simp [gB,F6]
  ·rw [decide_eq_false hz,show gB [(false,false)]=true from rfl,cond_true,pq p s hp,Option.bind_some,cond_false]
   by_cases h0:Du p s=0
   ·obtain⟨hv,hs⟩:=uF.mp h0
    have hsl:=hv.sl;have hll:=hv.ll;have hrl:=hv.rl
    obtain⟨b,hpk,hbl⟩:=UD n (p.racks.length:Int) ⟨by omega,by omega⟩
    have hk:b<p.racks.length:=by omega
    obtain⟨K,hS,hK0,_⟩:=Kj hv hs hk
    obtain⟨x,cut,hx,hSv⟩:=R6 (VP.one hv hk) (VS.one (k:=b) hs)
    have ha:=VJ hv hs hk hSv
    have hq:jd ⟨p.buses,p.sources,p.links,([(⟨(at' p.racks b).feeds,(at' p.racks b).power,(at' p.racks b).paths⟩:aT)].set 0 (⟨(at' [(⟨(at' p.racks b).feeds,(at' p.racks b).power,(at' p.racks b).paths⟩:aT)] 0).feeds,1,(at' [(⟨(at' p.racks b).feeds,(at' p.racks b).power,(at' p.racks b).paths⟩:aT)] 0).paths⟩:aT))⟩ s=some (x,cut,0):=hx
    rw [h0,decide_eq_true rfl,Bool.not_true,cond_false,hpk,Option.bind_some,TH hv hs (Qh hv hs) (Pj hv hs),Option.bind_some,hS,Option.bind_some,JD p (by omega) (by omega) (by omega) (fun y hy=>by
     obtain⟨i,hi,rfl⟩:=j5 hy
     have:=(hv.lnk i hi).tl;omega),Option.bind_some,aH ⟨by omega,by omega⟩,aH ⟨Int.le_refl 0,by show(0:Int)<1;omega⟩,Int.toNat_natCast,hq,Option.bind_some]
    dsimp only
    rw [decide_eq_true (show((tab p.racks.length (HZ p (kJ p s))).length:Int)=(p.racks.length:Int) by rw [cK]),decide_eq_true (rfl:(0:Int)=0),Bool.not_true,cond_false,cond_false,cond_false,cond_false,aH ⟨⟨by omega,by rw [cK];omega⟩,fun _=> ⟨by omega,by rw [cK];omega⟩⟩,PW (VP.one hv hk) (VS.one (k:=b) hs) (k:=0) (by show 0<1;omega) hSv.ps,Option.bind_some,wK hk,ha]
    have hfb:(bif (HZ p (kJ p s) b).e0 then true else(HZ p (kJ p s) b).e1)=Hy p s b:=Vp _ _
    rw [hfb]
    cases hf:Hy p s b with
    |true=>
     have:K≠0:=fun e=>by rw [hK0.1 e]at hf;cases hf
     rw [if_pos rfl,decide_eq_true rfl,decide_eq_true (show(0:Int)<(K:Int) by omega),F6];rfl
    |false=>
     have:=hK0.2 hf
     rw [if_neg (by decide),this,F6];rfl
   ·rw [decide_eq_false h0,Bool.not_false,cond_true,F6];rfl
end Sg
