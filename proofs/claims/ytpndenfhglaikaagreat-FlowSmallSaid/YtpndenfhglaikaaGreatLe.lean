import Derived.Test.YtpndenfhglaikaaGreatLd
set_option linter.all false
namespace Sg
open Go
def Pr (a:List bg) (j:Nat) (u v:Nat) (t k:Int):Prop:=at' a (2*j)=⟨(v:Int),t⟩∧at' a (2*j+1)=⟨(u:Int),k⟩
theorem wu {α:Type} [Inhabited α] {l x:List α} {i:Nat} (h:i<l.length):at' (l++x) i=at' l i:=by
 rw [dZ (by rw [List.length_append];omega),dZ h,List.getElem_append_left h]
theorem zT {α:Type} [Inhabited α] {l x:List α} {i:Nat} (h:i<x.length):at' (l++x) (l.length+i)=at' x i:=by
 rw [dZ (by rw [List.length_append];omega),dZ h,List.getElem_append_right (by omega)]
 congr 1;omega
theorem Pr.app {a x:List bg} {j u v:Nat} {t k:Int} (h:Pr a j u v t k) (hl:2*j+1<a.length):Pr (a++x) j u v t k:=⟨(wu (by omega)).trans h.1,(wu hl).trans h.2⟩
theorem Mk {n m:Nat} {a:List bg} {fr:List (List Int)} (hN:NW n m a fr) {u v:Nat} {t k:Int} (hu:u<n) (hv:v<n) (huv:u≠v) (ht:0≤t) (hk:0≤k) (htk:t+k≤1000000) (hm:m+1≤1000):
  ∃fr',dV (u:Int) (v:Int) t k ⟨a,fr⟩=some (((2*m:Nat):Int),⟨a++[⟨(v:Int),t⟩,⟨(u:Int),k⟩],fr'⟩)∧NW n (m+1) (a++[⟨(v:Int),t⟩,⟨(u:Int),k⟩]) fr'∧Pr (a++[⟨(v:Int),t⟩,⟨(u:Int),k⟩]) m u v t k:=by
 have hlen:=hN.len
 have hfl:=hN.frl
 have hfu:=hN.frn u hu
 have hfv:=hN.frn v hv
 have hb: ∀i,i<2*m→at' (a++[⟨(v:Int),t⟩,⟨(u:Int),k⟩]) i=at' a i:=fun i hi=>wu (by omega)
 have hb0:at' (a++[⟨(v:Int),t⟩,⟨(u:Int),k⟩]) (2*m)=⟨(v:Int),t⟩:=by rw [←hlen];exact zT (i:=0) (by simp)
 have hb1:at' (a++[⟨(v:Int),t⟩,⟨(u:Int),k⟩]) (2*m+1)=⟨(u:Int),k⟩:=by rw [←hlen];exact zT (i:=1) (by simp)
 have e1:at' (fr.set u (at' fr u++[((2*m:Nat):Int)])) v=at' fr v:=cZ huv
 refine⟨(fr.set u (at' fr u++[((2*m:Nat):Int)])).set v (at' fr v++[((2*m+1:Nat):Int)]), ?_, ?_,hb0,hb1⟩
 ·unfold dV
  dsimp only
  simp only [List.length_cons,List.length_nil]
  rw [Int.toNat_natCast,Int.toNat_natCast,ai ⟨by omega,by omega⟩,ai ⟨by omega,by omega,by omega⟩,hlen,e1,ai ⟨by rw [List.length_set];omega,by omega,by omega⟩,wr (x:=((2*m:Nat):Int)+1) (by omega),mK]
 ·have hfr: ∀w,at' ((fr.set u (at' fr u++[((2*m:Nat):Int)])).set v (at' fr v++[((2*m+1:Nat):Int)])) w=if w=v then at' fr v++[((2*m+1:Nat):Int)]else if w=u then at' fr u++[((2*m:Nat):Int)]else at' fr w:=fun w=>by
   by_cases h1:v=w
   ·subst h1;rw [dB (by rw [List.length_set];omega),if_pos rfl]
   ·rw [cZ h1,if_neg (Ne.symm h1)]
    by_cases h2:u=w
    ·subst h2;rw [dB (by omega),if_pos rfl]
    ·rw [cZ h2,if_neg (Ne.symm h2)]
  have tg: ∀i,i<2*m→tgt (a++[⟨(v:Int),t⟩,⟨(u:Int),k⟩]) i=tgt a i:=fun i hi=>by unfold tgt;rw [hb i hi]
  have tg0:tgt (a++[⟨(v:Int),t⟩,⟨(u:Int),k⟩]) (2*m)=v:=by unfold tgt;rw [hb0];rfl
  have tg1:tgt (a++[⟨(v:Int),t⟩,⟨(u:Int),k⟩]) (2*m+1)=u:=by unfold tgt;rw [hb1];rfl
  have t0:tw (2*m)=2*m+1:=by unfold tw;rw [if_pos (by omega)]
  have t1:tw (2*m+1)=2*m:=by unfold tw;rw [if_neg (by omega)];omega
  have cs: ∀i,i<2*(m+1)→i<2*m∨i=2*m∨i=2*m+1:=fun i hi=>by omega
  refine⟨hN.n1,hm,by simp;omega,fun i hi=> ?_,fun i hi=> ?_,by simp [hfl],fun w hw x hx=> ?_,fun i hi=> ?_,fun w hw=> ?_⟩
  ·rcases cs i hi with h|rfl|rfl
   ·rw [hb i h];exact hN.to i h
   ·rw [hb0];show 0≤(v:Int)∧(v:Int)<n;omega
   ·rw [hb1];show 0≤(u:Int)∧(u:Int)<n;omega
  ·unfold iW
   rcases cs i hi with h|rfl|rfl
   ·rw [hb i h,hb _ (Ev h)];exact hN.left i h
   ·rw [t0,hb0,hb1];exact⟨ht,htk⟩
   ·rw [t1,hb0,hb1];exact⟨hk,by show k+t≤_;omega⟩
  ·rw [hfr]at hx
   have old: ∀w,w<n→ ∀x∈at' fr w,∃i:Nat,x=(i:Int)∧i<2*(m+1)∧tgt (a++[⟨(v:Int),t⟩,⟨(u:Int),k⟩]) (tw i)=w:=fun w hw x hx=>by
    obtain⟨i,h1,h2,h3⟩:=hN.fr1 w hw x hx
    exact⟨i,h1,by omega,by rw [tg _ (Ev h2)];exact h3⟩
   split at hx
   ·rename_i e;subst e
    rw [List.mem_append,List.mem_singleton]at hx
    rcases hx with hx|rfl
    ·exact old _ hw x hx
    ·exact⟨_,rfl,by omega,by rw [t1];exact tg0⟩
   ·split at hx
    ·rename_i e;subst e
     rw [List.mem_append,List.mem_singleton]at hx
     rcases hx with hx|rfl
     ·exact old _ hw x hx
     ·exact⟨_,rfl,by omega,by rw [t0];exact tg1⟩
    ·exact old _ hw x hx
  ·rw [hfr]
   rcases cs i hi with h|rfl|rfl
   ·rw [tg _ (Ev h)]
    have:=hN.fr2 i h
    split
    ·rename_i e;rw [e]at this;exact List.mem_append_left _ this
    ·split
     ·rename_i e;rw [e]at this;exact List.mem_append_left _ this
     ·exact this
   ·rw [t0,tg1,if_neg huv,if_pos rfl];exact List.mem_append_right _ (List.mem_singleton_self _)
   ·rw [t1,tg0,if_pos rfl];exact List.mem_append_right _ (List.mem_singleton_self _)
  ·rw [hfr]
   have:=hN.frn w hw
   split
   ·rw [List.length_append,List.length_singleton];omega
   ·split
    ·rw [List.length_append,List.length_singleton];omega
    ·omega
theorem NW.nil {n:Nat} (h:1≤n∧n≤1000):NW n 0 [] (List.replicate n []):=by
 refine⟨h,by omega,rfl,fun i hi=>by omega,fun i hi=>by omega,by simp,fun v hv x hx=> ?_,fun i hi=>by omega,fun v hv=> ?_⟩
 ·rw [dm hv]at hx;cases hx
 ·rw [dm hv];simp
def lD (f:Nat→Bool):Nat→Nat
 |0=>0
 |k+1=>lD f k+(if f k=true then 1 else 0)
theorem Ff (f:Nat→Bool) (k:Nat):lD f (k+1)=lD f k+(if f k=true then 1 else 0):=rfl
theorem MX (f:Nat→Bool) (k:Nat):lD f k≤k:=by
 induction k with
 |zero=>exact Nat.le_refl _
 |succ k ih=>rw [Ff];split<;>omega
theorem WE (f:Nat→Bool) {j k:Nat} (h:j≤k):lD f j≤lD f k:=by
 induction k with
 |zero=>have:j=0:=by omega
      subst this;exact Nat.le_refl _
 |succ k ih=>
  by_cases e:j=k+1
  ·subst e;exact Nat.le_refl _
  ·have:=ih (by omega);rw [Ff];split<;>omega
theorem zA {f:Nat→Bool} {j k:Nat} (h:j<k) (hf:f j=true):lD f j<lD f k:=by
 have h1:lD f (j+1)=lD f j+1:=by show lD f j+_=_;rw [if_pos hf]
 have:=WE f (show j+1≤k by omega)
 omega
theorem MO (f:Nat→Bool) (g:Nat→Int) (o:Nat): ∀k,aU (o+lD f k) g=aU o g+aU k fun i=>if f i=true then g (o+lD f i)else 0
 |0=>by simp [lD,aU]
 |k+1=>by
  have ih:=MO f g o k
  rw [Ff,aU]
  cases hf:f k with
  |true=>rw [if_pos rfl,if_pos rfl,show o+(lD f k+1)=(o+lD f k)+1 by omega,aU,ih];omega
  |false=>rw [if_neg (by simp),if_neg (by simp),Nat.add_zero,ih];omega
def KQ (f:Nat→Bool) (o:Nat):Nat→List (Int × Int)
 |0=>[]
 |k+1=>KQ f o k++(if f k=true then [((k:Int),((2*(o+lD f k):Nat):Int))]else [])
theorem D6 {f:Nat→Bool} {o:Nat}: ∀{k:Nat} {e:Int × Int},e∈KQ f o k↔ ∃i,i<k∧f i=true∧e=((i:Int),((2*(o+lD f i):Nat):Int))
 |0,e=>by simp [KQ]
 |k+1,e=>by
  unfold KQ
  rw [List.mem_append,D6]
  constructor
  ·rintro (⟨i,h1,h2,h3⟩|h)
   ·exact⟨i,by omega,h2,h3⟩
   ·split at h
    ·rename_i hf;rw [List.mem_singleton]at h;exact⟨k,by omega,hf,h⟩
    ·cases h
  ·rintro ⟨i,h1,h2,h3⟩
   by_cases e1:i=k
   ·subst e1;right;rw [if_pos h2,List.mem_singleton];exact h3
   ·exact .inl ⟨i,by omega,h2,h3⟩
theorem EH {κ α:Type} {eq:κ→κ→Bool} {k:κ} {v:α}: ∀{l:List (κ × α)},(∀e∈l,eq k e.1=false)→gG eq k v l=l++[(k,v)]
 |[],_=>rfl
 |(k',v')::l,h=>by
  have h1:=h (k',v') List.mem_cons_self
  unfold gG
  rw [h1,cond_false,EH fun e he=>h e (List.mem_cons_of_mem _ he)];rfl
section
variable {p:ah} {s:State} (hp:VP p) (hs:VS p s)
include hp hs
def nodes (p:ah):Nat:=2+p.buses.toNat+p.racks.length
theorem UN: ∃a fr,ay (iL p s) FUEL ([],List.replicate (nodes p) [],[],0)=some (.brk (p.sources,a,fr,List.replicate p.sources.length 0,KQ (bB p s) 0 p.sources.length))∧NW (nodes p) (lD (bB p s) p.sources.length) a fr∧
  ∀k,k<p.sources.length→bB p s k=true→Pr a (lD (bB p s) k) 0 (1+(at' p.sources k).bus.toNat) (at' p.sources k).power 0:=by
 have hsl:=hp.sl;have hrl:=hp.rl;have hb:=hp.b
 have key:=uw (body:=iL p s)
  (fun z:List bg × List (List Int) × List (Int × Int) × Int=> ∃k:Nat,z.2.2.2=(k:Int)∧k≤p.sources.length∧NW (nodes p) (lD (bB p s) k) z.1 z.2.1∧z.2.2.1=KQ (bB p s) 0 k∧ ∀j,j<k→bB p s j=true→Pr z.1 (lD (bB p s) j) 0 (1+(at' p.sources j).bus.toNat) (at' p.sources j).power 0)
  (fun z=>p.sources.length - z.2.2.2.toNat)
  (fun r=> ∃a fr,r= .brk (p.sources,a,fr,List.replicate p.sources.length 0,KQ (bB p s) 0 p.sources.length)∧NW (nodes p) (lD (bB p s) p.sources.length) a fr∧ ∀k,k<p.sources.length→bB p s k=true→Pr a (lD (bB p s) k) 0 (1+(at' p.sources k).bus.toNat) (at' p.sources k).power 0)
  (fun z hI=> ?_)
 ·obtain⟨r,e,a,fr,rfl,h⟩:=key FUEL ([],List.replicate (nodes p) [],[],0) ⟨0,rfl,by omega,NW.nil (by unfold nodes;omega),rfl,fun j hj=>by omega⟩ (by show p.sources.length - _<FUEL;unfold FUEL;omega)
  exact⟨a,fr,e,h⟩
 ·obtain⟨a,fr,mp,t⟩:=z
  obtain⟨k,rfl,hk,hN,hm,hP⟩:=hI
  dsimp only at hN hm hP ⊢
  subst hm
  unfold iL
  dsimp only
  by_cases hk2:k<p.sources.length
  ·left
   have hv:=hp.src k hk2;have hbus:=hv.bus;have hw:=hv.power
   have hcl:=MX (bB p s) k
   rw [vV (by omega),cond_true,ai (by omega),ru hp hs hk2,Option.bind_some,Int.toNat_natCast,wr (x:=(k:Int)+1) (by omega)]
   have h1:lD (bB p s) (k+1)=lD (bB p s) k+(if bB p s k=true then 1 else 0):=rfl
   have hm1:KQ (bB p s) 0 (k+1)=KQ (bB p s) 0 k++(if bB p s k=true then [((k:Int),((2*(0+lD (bB p s) k):Nat):Int))]else []):=rfl
   cases hf:bB p s k with
   |false=>
    rw [hf,if_neg (by simp)]at h1 hm1
    rw [cond_false]
    refine⟨_,rfl,⟨k+1,by simp,by omega,by rw [h1];exact hN,by rw [hm1,List.append_nil],fun j hj hfj=> ?_⟩, ?_⟩
    ·by_cases e:j=k
     ·subst e;rw [hf]at hfj;cases hfj
     ·exact hP j (by omega) hfj
    ·show p.sources.length - ((k:Int)+1).toNat<p.sources.length - (k:Int).toNat
     omega
   |true=>
    rw [hf,if_pos rfl]at h1 hm1
    have e1:IntKind.wrap .i64 (1+(at' p.sources k).bus)=((1+(at' p.sources k).bus.toNat:Nat):Int):=by rw [wr (by omega)];omega
    obtain⟨fr',g1,g2,g3⟩:=Mk hN (u:=0) (v:=1+(at' p.sources k).bus.toNat) (t:=(at' p.sources k).power) (k:=0) (by unfold nodes;omega) (by unfold nodes;omega) (by omega) (by omega) (by omega) (by omega) (by omega)
    rw [cond_true,e1]
    have g1':dV 0 ((1+(at' p.sources k).bus.toNat:Nat):Int) (at' p.sources k).power 0 ⟨a,fr⟩=_:=g1
    rw [g1',Option.bind_some]
    refine⟨_,rfl,⟨k+1,by simp,by omega,by rw [h1];exact g2, ?_,fun j hj hfj=> ?_⟩, ?_⟩
    ·rw [hm1]
     rw [Nat.zero_add]
     exact EH fun e he=>by
      obtain⟨i,h1,h2,rfl⟩:=D6.1 he
      exact VG (by show(k:Int)≠(i:Int);omega)
    ·by_cases e:j=k
     ·subst e;exact g3
     ·refine(hP j (by omega) hfj).app ?_
      have:=zA (show j<k by omega) hfj
      rw [hN.len];omega
    ·show p.sources.length - ((k:Int)+1).toNat<p.sources.length - (k:Int).toNat
     omega
  ·right
   have:k=p.sources.length:=by omega
   subst this
   rw [Jd (by omega),cond_false,Int.toNat_natCast]
   exact⟨_,rfl,a,fr,rfl,hN,hP⟩
end
def Kp (m:Nat) (a b:List bg):Prop:= ∀j u v t k,j<m→Pr a j u v t k→Pr b j u v t k
def Ux (p:ah) (s:State) (r:Nat):Nat:=1+(if iJ s (at' p.racks r).feeds.e0=true then 1 else 0)+(if iJ s (at' p.racks r).feeds.e1=true then 1 else 0)
def sJ (p:ah) (s:State):Nat→Nat
 |0=>0
 |k+1=>sJ p s k+Ux p s k
theorem AR (p:ah) (s:State) (k:Nat):sJ p s (k+1)=sJ p s k+Ux p s k:=rfl
theorem Rf (p:ah) (s:State) (r:Nat):1≤Ux p s r∧Ux p s r≤3:=by unfold Ux;split<;>split<;>omega
theorem UL (p:ah) (s:State) (k:Nat):sJ p s k≤3*k:=by
 induction k with
 |zero=>exact Nat.le_refl _
 |succ k ih=>rw [AR];have:=Rf p s k;omega
theorem ML {p:ah} {s:State} {j k:Nat} (h:j<k):sJ p s j+Ux p s j≤sJ p s k:=by
 induction k with
 |zero=>omega
 |succ k ih=>
  rw [AR]
  by_cases e:j=k
  ·subst e;exact Nat.le_refl _
  ·have:=ih (by omega);omega
def mY (p:ah) (s:State) (o r:Nat) (c:Bool):Nat:=o+sJ p s r+1+(if c=true∧iJ s (at' p.racks r).feeds.e0=true then 1 else 0)
def O6 (p:ah) (s:State) (o r:Nat):List (af × Int):=if iJ s (at' p.racks r).feeds.e0=true then [(⟨(r:Int),0⟩,((2*mY p s o r false:Nat):Int))]else []
def abJ (p:ah) (s:State) (o r:Nat):List (af × Int):=if iJ s (at' p.racks r).feeds.e1=true then [(⟨(r:Int),1⟩,((2*mY p s o r true:Nat):Int))]else []
def JW (p:ah) (s:State) (o:Nat):Nat→List (af × Int)
 |0=>[]
 |k+1=>JW p s o k++O6 p s o k++abJ p s o k
theorem BG {p:ah} {s:State} {o:Nat}: ∀{k:Nat} {e:af × Int},e∈JW p s o k↔ ∃r,r<k∧((iJ s (at' p.racks r).feeds.e0=true∧e=(⟨(r:Int),0⟩,((2*mY p s o r false:Nat):Int)))∨(iJ s (at' p.racks r).feeds.e1=true∧e=(⟨(r:Int),1⟩,((2*mY p s o r true:Nat):Int))))
 |0,e=>by simp [JW]
 |k+1,e=>by
  unfold JW
  rw [List.mem_append,List.mem_append,BG]
  constructor
  ·rintro ((⟨i,h1,h2⟩|h)|h)
   ·exact⟨i,by omega,h2⟩
   ·unfold O6 at h
    split at h
    ·rename_i hf;rw [List.mem_singleton]at h;exact⟨k,by omega, .inl ⟨hf,h⟩⟩
    ·cases h
   ·unfold abJ at h
    split at h
    ·rename_i hf;rw [List.mem_singleton]at h;exact⟨k,by omega, .inr ⟨hf,h⟩⟩
    ·cases h
  ·rintro ⟨i,h1,h2⟩
   by_cases e1:i=k
   ·subst e1
    rcases h2 with⟨hf,h⟩|⟨hf,h⟩
    ·left;right;unfold O6;rw [if_pos hf,List.mem_singleton];exact h
    ·right;unfold abJ;rw [if_pos hf,List.mem_singleton];exact h
   ·exact .inl (.inl ⟨i,by omega,h2⟩)
section
variable {p:ah} {s:State} (hp:VP p) (hs:VS p s)
include hp hs
theorem WS {m0:Nat} {a0:List bg} {fr0:List (List Int)} (hN0:NW (nodes p) m0 a0 fr0) (hm0:m0≤8): ∃a fr,ay (iO p s p.sources) FUEL (a0,fr0,[],0)=some (.brk (p.links,a,fr,List.replicate p.links.length 0,KQ (aN p s) m0 p.links.length))∧NW (nodes p) (m0+lD (aN p s) p.links.length) a fr∧Kp m0 a0 a∧
  ∀k,k<p.links.length→aN p s k=true→Pr a (m0+lD (aN p s) k) (1+(at' p.links k).a.toNat) (1+(at' p.links k).b.toNat) (at' p.links k).most (at' p.links k).most:=by
 have hsl:=hp.ll;have hrl:=hp.rl;have hb:=hp.b
 have key:=uw (body:=iO p s p.sources)
  (fun z:List bg × List (List Int) × List (Int × Int) × Int=> ∃k:Nat,z.2.2.2=(k:Int)∧k≤p.links.length∧NW (nodes p) (m0+lD (aN p s) k) z.1 z.2.1∧z.2.2.1=KQ (aN p s) m0 k∧Kp m0 a0 z.1∧ ∀j,j<k→aN p s j=true→Pr z.1 (m0+lD (aN p s) j) (1+(at' p.links j).a.toNat) (1+(at' p.links j).b.toNat) (at' p.links j).most (at' p.links j).most)
  (fun z=>p.links.length - z.2.2.2.toNat)
  (fun r=> ∃a fr,r= .brk (p.links,a,fr,List.replicate p.links.length 0,KQ (aN p s) m0 p.links.length)∧NW (nodes p) (m0+lD (aN p s) p.links.length) a fr∧Kp m0 a0 a∧ ∀k,k<p.links.length→aN p s k=true→Pr a (m0+lD (aN p s) k) (1+(at' p.links k).a.toNat) (1+(at' p.links k).b.toNat) (at' p.links k).most (at' p.links k).most)
  (fun z hI=> ?_)
 ·obtain⟨r,e,a,fr,rfl,h⟩:=key FUEL (a0,fr0,[],0) ⟨0,rfl,by omega,hN0,rfl,fun j u v t k _ h=>h,fun j hj=>by omega⟩ (by show p.links.length - _<FUEL;unfold FUEL;omega)
  exact⟨a,fr,e,h⟩
 ·obtain⟨a,fr,mp,t⟩:=z
  obtain⟨k,rfl,hk,hN,hm,hKp,hP⟩:=hI
  dsimp only at hN hm hKp hP ⊢
  subst hm
  unfold iO
  dsimp only
  by_cases hk2:k<p.links.length
  ·left
   have hv:=hp.lnk k hk2;have ha:=hv.a;have hbb:=hv.b;have hne:=hv.ab;have hw:=hv.most
   have hcl:=MX (aN p s) k
   have hc:dG ⟨p.buses,p.sources,p.links,p.racks⟩ s (k:Int)=some (aN p s k):=tZ hp hs hk2
   rw [vV (by omega),cond_true,ai (by omega),hc,Option.bind_some,Int.toNat_natCast,wr (x:=(k:Int)+1) (by omega)]
   have h1:lD (aN p s) (k+1)=lD (aN p s) k+(if aN p s k=true then 1 else 0):=rfl
   have hm1:KQ (aN p s) m0 (k+1)=KQ (aN p s) m0 k++(if aN p s k=true then [((k:Int),((2*(m0+lD (aN p s) k):Nat):Int))]else []):=rfl
   cases hf:aN p s k with
   |false=>
    rw [hf,if_neg (by simp)]at h1 hm1
    rw [cond_false]
    refine⟨_,rfl,⟨k+1,by simp,by omega,by rw [h1];exact hN,by rw [hm1,List.append_nil],hKp,fun j hj hfj=> ?_⟩, ?_⟩
    ·by_cases e:j=k
     ·subst e;rw [hf]at hfj;cases hfj
     ·exact hP j (by omega) hfj
    ·show p.links.length - ((k:Int)+1).toNat<p.links.length - (k:Int).toNat
     omega
   |true=>
    rw [hf,if_pos rfl]at h1 hm1
    have e1:IntKind.wrap .i64 (1+(at' p.links k).a)=((1+(at' p.links k).a.toNat:Nat):Int):=by rw [wr (by omega)];omega
    have e2:IntKind.wrap .i64 (1+(at' p.links k).b)=((1+(at' p.links k).b.toNat:Nat):Int):=by rw [wr (by omega)];omega
    obtain⟨fr',g1,g2,g3⟩:=Mk hN (u:=1+(at' p.links k).a.toNat) (v:=1+(at' p.links k).b.toNat) (t:=(at' p.links k).most) (k:=(at' p.links k).most) (by unfold nodes;omega) (by unfold nodes;omega) (by omega) (by omega) (by omega) (by omega) (by omega)
    rw [cond_true,e1,e2,g1,Option.bind_some]
    refine⟨_,rfl,⟨k+1,by simp,by omega,by rw [h1];exact g2, ?_,fun j u v t k hj h=>(hKp j u v t k hj h).app (by rw [hN.len];omega),fun j hj hfj=> ?_⟩, ?_⟩
    ·rw [hm1]
     exact EH fun e he=>by
      obtain⟨i,h1,h2,rfl⟩:=D6.1 he
      exact VG (by show(k:Int)≠(i:Int);omega)
    ·by_cases e:j=k
     ·subst e;exact g3
     ·refine(hP j (by omega) hfj).app ?_
      have:=zA (show j<k by omega) hfj
      rw [hN.len];omega
    ·show p.links.length - ((k:Int)+1).toNat<p.links.length - (k:Int).toNat
     omega
  ·right
   have:k=p.links.length:=by omega
   subst this
   rw [Jd (by omega),cond_false,Int.toNat_natCast]
   exact⟨_,rfl,a,fr,rfl,hN,hKp,hP⟩
theorem Ia {m:Nat} {a:List bg} {fr:List (List Int)} (hN:NW (nodes p) m a fr) (hm:m+1≤1000) {r:Nat} (hr:r<p.racks.length) (mp:List (af × Int)) {c:Nat} {b:Int} (hc:at' [(at' p.racks r).feeds.e0,(at' p.racks r).feeds.e1] c=b) (hc2:c<2) (hb1: -1≤b∧b<p.buses) (hnew: ∀e∈mp,e.1≠⟨(r:Int),(c:Int)⟩):
  ∃a' fr',eU p s p.racks (r:Int) (a,fr,mp,(c:Int))=some (.next (a',fr',mp++(if iJ s b=true then [(⟨(r:Int),(c:Int)⟩,((2*m:Nat):Int))]else []),((c+1:Nat):Int)))∧NW (nodes p) (m+(if iJ s b=true then 1 else 0)) a' fr'∧Kp m a a'∧(iJ s b=true→Pr a' m (1+b.toNat) (1+p.buses.toNat+r) (at' p.racks r).power 0):=by
 have hrl:=hp.rl;have hb:=hp.b
 have hw:=(hp.rck r hr).power
 have h4:=hs.badBus
 have hf:iF s b=some (iJ s b):=by
  unfold iF iJ
  rw [ai (fun h=> ⟨of_decide_eq_true (gB1 h),by omega⟩)]
  cases decide (0≤b)<;>rfl
 unfold eU
 dsimp only
 rw [Int.toNat_natCast,Int.toNat_natCast,vV (by omega),cond_true,ai (by omega),hc,hf,Option.bind_some,wr (x:=(c:Int)+1) (by omega)]
 cases hfb:iJ s b with
 |false=>
  refine⟨a,fr, ?_,hN,fun j u v t k _ h=>h,fun h=>by cases h⟩
  rw [if_neg (by simp),List.append_nil];rfl
 |true=>
  have hb0:0≤b:=by unfold iJ at hfb;rw [Bool.and_eq_true,decide_eq_true_eq]at hfb;exact hfb.1
  have e1:IntKind.wrap .i64 (1+b)=((1+b.toNat:Nat):Int):=by rw [wr (by omega)];omega
  have e2:IntKind.wrap .i64 (IntKind.wrap .i64 (1+p.buses)+(r:Int))=((1+p.buses.toNat+r:Nat):Int):=by rw [wr (x:=1+p.buses) (by omega),wr (by omega)];omega
  obtain⟨fr',g1,g2,g3⟩:=Mk hN (u:=1+b.toNat) (v:=1+p.buses.toNat+r) (t:=(at' p.racks r).power) (k:=0) (by unfold nodes;omega) (by unfold nodes;omega) (by omega) (by omega) (by omega) (by omega) hm
  refine⟨_,fr', ?_,g2,fun j u v t k hj h=>h.app (by rw [hN.len];omega),fun _=>g3⟩
  rw [cond_true,e1,e2,g1,Option.bind_some,if_pos rfl]
  rw [EH (fun e he=>by
   have:=hnew e he
   cases h1:(decide ((r:Int)=e.1.e0) && (decide ((c:Int)=e.1.e1) && true))with
   |false=>rfl
   |true=>
    rw [Bool.and_true,Bool.and_eq_true,decide_eq_true_eq,decide_eq_true_eq]at h1
    refine absurd ?_ this
    obtain⟨⟨x,y⟩,z⟩:=e
    obtain⟨rfl,rfl⟩:=h1;rfl)]
  rfl
theorem WU {m0:Nat} {a0:List bg} {fr0:List (List Int)} (hN0:NW (nodes p) m0 a0 fr0) (hm0:m0≤48) (x2:List af): ∃a fr,ay (iN p s) FUEL (p.racks,((1+p.buses.toNat+p.racks.length:Nat):Int),a0,fr0,x2,[],p.racks,(p.racks.length:Int),0)=some (.brk (p.racks,((1+p.buses.toNat+p.racks.length:Nat):Int),a,fr,x2,JW p s m0 p.racks.length))∧NW (nodes p) (m0+sJ p s p.racks.length) a fr∧Kp m0 a0 a∧
  ∀r,r<p.racks.length→Pr a (m0+sJ p s r) (1+p.buses.toNat+r) (1+p.buses.toNat+p.racks.length) (at' p.racks r).power 0∧(iJ s (at' p.racks r).feeds.e0=true→Pr a (mY p s m0 r false) (1+(at' p.racks r).feeds.e0.toNat) (1+p.buses.toNat+r) (at' p.racks r).power 0)∧(iJ s (at' p.racks r).feeds.e1=true→Pr a (mY p s m0 r true) (1+(at' p.racks r).feeds.e1.toNat) (1+p.buses.toNat+r) (at' p.racks r).power 0):=by
 have hrl:=hp.rl;have hb:=hp.b
 have key:=uw (body:=iN p s)
  (fun z:List aC × Int × List bg × List (List Int) × List af × List (af × Int) × List aC × Int × Int=> ∃k a fr,z=(p.racks,((1+p.buses.toNat+p.racks.length:Nat):Int),a,fr,x2,JW p s m0 k,p.racks,(p.racks.length:Int),(k:Int))∧k≤p.racks.length∧NW (nodes p) (m0+sJ p s k) a fr∧Kp m0 a0 a∧ ∀r,r<k→Pr a (m0+sJ p s r) (1+p.buses.toNat+r) (1+p.buses.toNat+p.racks.length) (at' p.racks r).power 0∧(iJ s (at' p.racks r).feeds.e0=true→Pr a (mY p s m0 r false) (1+(at' p.racks r).feeds.e0.toNat) (1+p.buses.toNat+r) (at' p.racks r).power 0)∧(iJ s (at' p.racks r).feeds.e1=true→Pr a (mY p s m0 r true) (1+(at' p.racks r).feeds.e1.toNat) (1+p.buses.toNat+r) (at' p.racks r).power 0))
  (fun z=>p.racks.length - z.2.2.2.2.2.2.2.2.toNat)
  (fun q=> ∃a fr,q= .brk (p.racks,((1+p.buses.toNat+p.racks.length:Nat):Int),a,fr,x2,JW p s m0 p.racks.length)∧NW (nodes p) (m0+sJ p s p.racks.length) a fr∧Kp m0 a0 a∧ ∀r,r<p.racks.length→Pr a (m0+sJ p s r) (1+p.buses.toNat+r) (1+p.buses.toNat+p.racks.length) (at' p.racks r).power 0∧(iJ s (at' p.racks r).feeds.e0=true→Pr a (mY p s m0 r false) (1+(at' p.racks r).feeds.e0.toNat) (1+p.buses.toNat+r) (at' p.racks r).power 0)∧(iJ s (at' p.racks r).feeds.e1=true→Pr a (mY p s m0 r true) (1+(at' p.racks r).feeds.e1.toNat) (1+p.buses.toNat+r) (at' p.racks r).power 0))
  (fun z hI=> ?_)
 ·obtain⟨r,e,a,fr,rfl,h⟩:=key FUEL (p.racks,((1+p.buses.toNat+p.racks.length:Nat):Int),a0,fr0,x2,[],p.racks,(p.racks.length:Int),0) ⟨0,a0,fr0,rfl,by omega,hN0,fun j u v t k _ h=>h,fun j hj=>by omega⟩ (by show p.racks.length - _<FUEL;unfold FUEL;omega)
  exact⟨a,fr,e,h⟩
 ·obtain⟨k,a,fr,rfl,hk,hN,hKp,hP⟩:=hI
  unfold iN
  dsimp only
  by_cases hk2:k<p.racks.length
  ·left
   have hv:=hp.rck k hk2;have ha:=hv.e0;have hbb:=hv.e1;have hne:=hv.ne;have hw:=hv.power
   have hcl:=UL p s k
   have e2:IntKind.wrap .i64 (IntKind.wrap .i64 (1+p.buses)+(k:Int))=((1+p.buses.toNat+k:Nat):Int):=by rw [wr (x:=1+p.buses) (by omega),wr (by omega)];omega
   obtain⟨fr1,g1,g2,g3⟩:=Mk hN (u:=1+p.buses.toNat+k) (v:=1+p.buses.toNat+p.racks.length) (t:=(at' p.racks k).power) (k:=0) (by unfold nodes;omega) (by unfold nodes;omega) (by omega) (by omega) (by omega) (by omega) (by omega)
   generalize hA1:a++[⟨((1+p.buses.toNat+p.racks.length:Nat):Int),(at' p.racks k).power⟩,⟨((1+p.buses.toNat+k:Nat):Int),0⟩]=A1 at g1 g2 g3
   have kp1:Kp (m0+sJ p s k) a A1:=fun j u v t k hj h=>by rw [←hA1];exact h.app (by rw [hN.len];omega)
   obtain⟨A2,fr2,f1,f2,f3,f4⟩:=Ia hp hs g2 (by omega) hk2 (JW p s m0 k) (c:=0) (b:=(at' p.racks k).feeds.e0) rfl (by omega) ⟨by omega,ha.2⟩ (fun e he q=>by
    obtain⟨i,h1,h2⟩:=BG.1 he
    rcases h2 with⟨_,rfl⟩|⟨_,rfl⟩
    ·have:(i:Int)=(k:Int):=congrArg af.e0 q
     omega
    ·have:(i:Int)=(k:Int):=congrArg af.e0 q
     omega)
   obtain⟨A3,fr3,d1,d2,d3,d4⟩:=Ia hp hs f2 (by split<;>omega) hk2 (JW p s m0 k++O6 p s m0 k) (c:=1) (b:=(at' p.racks k).feeds.e1) rfl (by omega) hbb (fun e he q=>by
    rw [List.mem_append]at he
    rcases he with he|he
    ·obtain⟨i,h1,h2⟩:=BG.1 he
     rcases h2 with⟨_,rfl⟩|⟨_,rfl⟩
     ·have:(i:Int)=(k:Int):=congrArg af.e0 q
      omega
     ·have:(i:Int)=(k:Int):=congrArg af.e0 q
      omega
    ·unfold O6 at he
     split at he
     ·rw [List.mem_singleton]at he
      subst he
      have:(0:Int)=1:=congrArg af.e1 q
      omega
     ·cases he)
   have i1:m0+sJ p s k+1=mY p s m0 k false:=by unfold mY;rw [if_neg (by simp)]
   have i2:m0+sJ p s k+1+(if iJ s (at' p.racks k).feeds.e0=true then 1 else 0)=mY p s m0 k true:=by
    unfold mY
    cases iJ s (at' p.racks k).feeds.e0<;>simp
   have hm1:JW p s m0 k++(if iJ s (at' p.racks k).feeds.e0=true then [((⟨(k:Int),((0:Nat):Int)⟩:af),((2*(m0+sJ p s k+1):Nat):Int))]else [])=JW p s m0 k++O6 p s m0 k:=by rw [i1];rfl
   have hm2:JW p s m0 k++O6 p s m0 k++(if iJ s (at' p.racks k).feeds.e1=true then [((⟨(k:Int),((1:Nat):Int)⟩:af),((2*(m0+sJ p s k+1+(if iJ s (at' p.racks k).feeds.e0=true then 1 else 0)):Nat):Int))]else [])=JW p s m0 (k+1):=by rw [i2];rfl
   rw [hm1]at f1
   rw [hm2]at d1
   have hN3:NW (nodes p) (m0+sJ p s (k+1)) A3 fr3:=by
    have:m0+sJ p s (k+1)=m0+sJ p s k+1+(if iJ s (at' p.racks k).feeds.e0=true then 1 else 0)+(if iJ s (at' p.racks k).feeds.e1=true then 1 else 0):=by rw [AR];unfold Ux;omega
    rw [this];exact d2
   have L3:ay (eU p s p.racks (k:Int)) FUEL (A1,fr1,JW p s m0 k,0)=some (.brk (A3,fr3,JW p s m0 (k+1))):=by
    refine gT (n:=3) ?_ (by unfold FUEL;omega)
    have f1':eU p s p.racks (k:Int) (A1,fr1,JW p s m0 k,0)=_:=f1
    rw [aS,f1']
    show ay _ 2 (A2,fr2,JW p s m0 k++O6 p s m0 k,((1:Nat):Int))=_
    rw [aS,d1]
    show ay _ 1 (A3,fr3,JW p s m0 (k+1),((2:Nat):Int))=_
    rw [aS]
    unfold eU
    rfl
   rw [vV (by omega),cond_true,ai (by omega),e2,Int.toNat_natCast,g1,Option.bind_some]
   dsimp only
   rw [L3,Option.bind_some,wr (x:=(k:Int)+1) (by omega)]
   refine⟨_,rfl,⟨k+1,A3,fr3,by simp,by omega,hN3,fun j u v t c hj h=>d3 j u v t c (by split<;>omega) (f3 j u v t c (by omega) (kp1 j u v t c (by omega) (hKp j u v t c hj h))),fun r hr=> ?_⟩, ?_⟩
   ·by_cases e:r=k
    ·subst e
     refine⟨d3 _ _ _ _ _ (by split<;>omega) (f3 _ _ _ _ _ (by omega) g3),fun h=>d3 _ _ _ _ _ (by rw [if_pos h,←i1];omega) (by rw [←i1];exact f4 h),fun h=>by rw [←i2];exact d4 h⟩
    ·have hlt:=ML (p:=p) (s:=s) (show r<k by omega)
     have hwd:=Rf p s r
     obtain⟨q1,q2,q3⟩:=hP r (by omega)
     have up: ∀j u v t c,j<m0+sJ p s k→Pr a j u v t c→Pr A3 j u v t c:=fun j u v t c hj h=>d3 j u v t c (by split<;>omega) (f3 j u v t c (by omega) (kp1 j u v t c hj h))
     have hwd2:Ux p s r=1+(if iJ s (at' p.racks r).feeds.e0=true then 1 else 0)+(if iJ s (at' p.racks r).feeds.e1=true then 1 else 0):=rfl
     refine⟨up _ _ _ _ _ (by omega) q1,fun h=>up _ _ _ _ _ ?_ (q2 h),fun h=>up _ _ _ _ _ ?_ (q3 h)⟩
     ·unfold mY;rw [if_pos h]at hwd2;rw [if_neg (by simp)];omega
     ·unfold mY;rw [if_pos h]at hwd2
      cases hx:iJ s (at' p.racks r).feeds.e0<;>rw [hx]at hwd2<;>simp at hwd2 ⊢ <;>omega
   ·show p.racks.length - ((k:Int)+1).toNat<p.racks.length - (k:Int).toNat
    omega
  ·right
   have:k=p.racks.length:=by omega
   subst this
   rw [Jd (by omega),cond_false]
   exact⟨_,rfl,a,fr,rfl,hN,hKp,hP⟩
end
theorem Gh {σ:Type} [DecidableEq σ] {r:σ}: ∀{l:List (Option σ)},l≠[]→(∀x∈l,x=some r)→zD l=some r
 |[],h,_=>absurd rfl h
 |[a],_,h=>h a (List.mem_singleton_self a)
 |a::b::l,_,h=>by
  unfold zD
  have:=Gh (l:=b::l) (by simp) fun x hx=>h x (List.mem_cons_of_mem _ hx)
  rw [this,if_pos (h a List.mem_cons_self)]
  exact h a List.mem_cons_self
theorem Gt {σ:Type} (I:σ→Prop) (len:Nat) (upd:Nat→σ→σ) (hI: ∀s i,I s→i<len→I (upd i s)) (hc: ∀s i j,I s→i<len→j<len→upd i (upd j s)=upd j (upd i s)) {x:Nat} (hx:x<len): ∀(l:List Nat) (s:σ),I s→(∀y∈l,y<len)→x∈l→(l.erase x).foldl (fun s i=>upd i s) (upd x s)=l.foldl (fun s i=>upd i s) s
 |[],_,_,_,h=>by cases h
 |y::l,s,hs,hl,h=>by
  by_cases e:y=x
  ·subst e;rw [List.erase_cons_head];rfl
  ·have hyl:=hl y List.mem_cons_self
   rw [List.erase_cons_tail (by simpa using e),List.foldl_cons,List.foldl_cons,hc s y x hs hyl hx]
   exact Gt I len upd hI hc hx l (upd y s) (hI s y hs hyl) (fun z hz=>hl z (List.mem_cons_of_mem _ hz)) ((List.mem_cons.1 h).resolve_left (Ne.symm e))
theorem JR {σ:Type} [DecidableEq σ] {body:σ→Nat→Option σ} (I:σ→Prop) (len:Nat) (upd:Nat→σ→σ) (hb: ∀s i,I s→i<len→body s i=some (upd i s)) (hI: ∀s i,I s→i<len→I (upd i s)) (hc: ∀s i j,I s→i<len→j<len→upd i (upd j s)=upd j (upd i s)):
  ∀(k:Nat) (l:List Nat) (s:σ),l.length=k→(∀y∈l,y<len)→I s→xk body k l s=some (l.foldl (fun s i=>upd i s) s)
 |0,l,s,hl,_,_=>by
  have:l=[]:=List.eq_nil_of_length_eq_zero hl
  subst this;rfl
 |k+1,l,s,hl,hlt,hs=>by
  unfold xk
  refine Gh (fun e=> ?_) fun o ho=> ?_
  ·have:=congrArg List.length e
   rw [List.length_map,hl]at this;cases this
  ·obtain⟨x,hx,rfl⟩:=List.mem_map.1 ho
   have hxl:=hlt x hx
   rw [hb s x hs hxl,Option.bind_some,JR I len upd hb hI hc k (l.erase x) (upd x s) (by rw [List.length_erase_of_mem hx,hl];rfl) (fun y hy=>hlt y (List.mem_of_mem_erase hy)) (hI s x hs hxl),Gt I len upd hI hc hxl l s hs hlt hx]
theorem TB (W:Nat→Int) (s:List Int) (i j:Nat):(s.set j (W j)).set i (W i)=(s.set i (W i)).set j (W j):=by
 by_cases e:i=j
 ·subst e;rfl
 ·exact List.set_comm _ _ (Ne.symm e)
theorem O1 (ks:Nat→Nat) (W:Nat→Int): ∀(l:List Nat) (s:List Int),(∀y∈l,ks y<s.length)→(l.foldl (fun s i=>s.set (ks i) (W (ks i))) s).length=s.length∧ ∀k,((∃y∈l,ks y=k)→at' (l.foldl (fun s i=>s.set (ks i) (W (ks i))) s) k=W k)∧((∀y∈l,ks y≠k)→at' (l.foldl (fun s i=>s.set (ks i) (W (ks i))) s) k=at' s k)
 |[],s,_=> ⟨rfl,fun k=> ⟨fun⟨y,hy,_⟩=>absurd hy List.not_mem_nil,fun _=>rfl⟩⟩
 |x::l,s,h=>by
  have hx:=h x List.mem_cons_self
  obtain⟨h1,h2⟩:=O1 ks W l (s.set (ks x) (W (ks x))) fun y hy=>by rw [List.length_set];exact h y (List.mem_cons_of_mem _ hy)
  rw [List.foldl_cons]
  refine⟨by rw [h1,List.length_set],fun k=> ⟨fun⟨y,hy,e⟩=> ?_,fun hn=> ?_⟩⟩
  ·by_cases q: ∃y∈l,ks y=k
   ·exact(h2 k).1 q
   ·rw [(h2 k).2 fun y hy e=>q ⟨y,hy,e⟩]
    rcases List.mem_cons.1 hy with rfl|hy
    ·subst e;exact dB hx
    ·exact absurd ⟨y,hy,e⟩ q
  ·rw [(h2 k).2 fun y hy=>hn y (List.mem_cons_of_mem _ hy)]
   exact cZ (hn x List.mem_cons_self)
theorem KS {mp:List (Int × Int)} {f:Nat→Bool} {o N:Nat} (hmp:mp=KQ f o N) (W:Nat→Int) {body:List Int→Nat→Option (List Int)}
  (hb: ∀s i k,s.length=N→i<mp.length→k<N→f k=true→at' (mp.map Prod.fst) i=(k:Int)→at' (mp.map Prod.snd) i=((2*(o+lD f k):Nat):Int)→body s i=some (s.set k (W k))):
  xk body mp.length (List.range mp.length) (List.replicate N 0)=some (tab N fun k=>if f k=true then W k else 0):=by
 have ent: ∀i,i<mp.length→ ∃k,k<N∧f k=true∧at' (mp.map Prod.fst) i=(k:Int)∧at' (mp.map Prod.snd) i=((2*(o+lD f k):Nat):Int):=fun i hi=>by
  have hm:at' mp i∈KQ f o N:=hmp ▸ at_mem hi
  obtain⟨k,h1,h2,h3⟩:=D6.1 hm
  refine⟨k,h1,h2, ?_, ?_⟩
  ·rw [dZ (by rw [List.length_map];exact hi),List.getElem_map,←dZ hi,h3]
  ·rw [dZ (by rw [List.length_map];exact hi),List.getElem_map,←dZ hi,h3]
 have hks: ∀i,i<mp.length→(at' (mp.map Prod.fst) i).toNat<N:=fun i hi=>by
  obtain⟨k,h1,_,h3,_⟩:=ent i hi
  rw [h3];omega
 rw [JR (fun s:List Int=>s.length=N) mp.length (fun i s=>s.set (at' (mp.map Prod.fst) i).toNat (W (at' (mp.map Prod.fst) i).toNat)) (fun s i hs hi=> ?_) (fun s i hs hi=>by rw [List.length_set];exact hs) (fun s i j _ _ _=>TB W s _ _) mp.length (List.range mp.length) _ List.length_range (fun y hy=>List.mem_range.1 hy) (by simp)]
 ·congr 1
  obtain⟨h1,h2⟩:=O1 (fun i=>(at' (mp.map Prod.fst) i).toNat) W (List.range mp.length) (List.replicate N 0) fun y hy=>by rw [List.length_replicate];exact hks y (List.mem_range.1 hy)
  refine Dm (by rw [h1,aV,List.length_replicate]) fun k hk=> ?_
  rw [h1,List.length_replicate]at hk
  rw [jV hk]
  cases hf:f k with
  |true=>
   rw [if_pos rfl]
   refine(h2 k).1 ?_
   have hm:((k:Int),((2*(o+lD f k):Nat):Int))∈mp:=hmp ▸ D6.2 ⟨k,hk,hf,rfl⟩
   obtain⟨i,hi,e⟩:=ow hm
   refine⟨i,List.mem_range.2 hi, ?_⟩
   show(at' (mp.map Prod.fst) i).toNat=k
   rw [dZ (by rw [List.length_map];exact hi),List.getElem_map,←dZ hi,e];rfl
  |false=>
   rw [if_neg (by simp),(h2 k).2 (fun y hy e=> ?_),dm hk]
   obtain⟨k',_,h3,h4,_⟩:=ent y (List.mem_range.1 hy)
   have e:(at' (mp.map Prod.fst) y).toNat=k:=e
   rw [h4]at e
   have:k'=k:=by omega
   subst this
   rw [hf]at h3;cases h3
 ·obtain⟨k,h1,h2,h3,h4⟩:=ent i hi
  rw [hb s i k hs hi h1 h2 h3 h4,h3];rfl
def zi (s:List af) (r:Nat) (c:Bool) (v:Int):List af:=if c=true then s.set r ⟨(at' s r).e0,v⟩else s.set r ⟨v,(at' s r).e1⟩
theorem qN (s:List af) (r:Nat) (c:Bool) (v:Int):(zi s r c v).length=s.length:=by unfold zi;split<;>simp
theorem Ee {s:List af} {r:Nat} (c:Bool) (v:Int) (hr:r<s.length) (k:Nat):(at' (zi s r c v) k).e0=(if k=r∧c=false then v else(at' s k).e0)∧(at' (zi s r c v) k).e1=(if k=r∧c=true then v else(at' s k).e1):=by
 unfold zi
 by_cases e:r=k
 ·subst e
  cases c
  ·rw [if_neg (by simp),dB hr];simp
  ·rw [if_pos rfl,dB hr];simp
 ·have e': ¬ k=r:=fun q=>e q.symm
  cases c
  ·rw [if_neg (by simp),cZ e];simp [e']
  ·rw [if_pos rfl,cZ e];simp [e']
theorem RF {x y:af} (h0:x.e0=y.e0) (h1:x.e1=y.e1):x=y:=by cases x;cases y;simp at h0 h1;rw [h0,h1]
theorem Sl (W:Nat→Bool→Int) {s:List af} {i j:Nat} {c d:Bool} (hi:i<s.length) (hj:j<s.length):zi (zi s j d (W j d)) i c (W i c)=zi (zi s i c (W i c)) j d (W j d):=by
 refine Dm (by rw [qN,qN,qN,qN]) fun k hk=> ?_
 have h1:=Ee c (W i c) (s:=zi s j d (W j d)) (by rw [qN];exact hi) k
 have h2:=Ee d (W j d) (s:=zi s i c (W i c)) (by rw [qN];exact hj) k
 have h3:=Ee d (W j d) hj k
 have h4:=Ee c (W i c) hi k
 refine RF ?_ ?_
 ·rw [h1.1,h2.1,h3.1,h4.1]
  by_cases e1:k=i∧c=false<;>by_cases e2:k=j∧d=false
  ·obtain⟨rfl,rfl⟩:=e1;obtain⟨rfl,rfl⟩:=e2;rfl
  ·rw [if_pos e1,if_neg e2,if_pos e1]
  ·rw [if_neg e1,if_pos e2,if_pos e2]
  ·rw [if_neg e1,if_neg e2,if_neg e2,if_neg e1]
 ·rw [h1.2,h2.2,h3.2,h4.2]
  by_cases e1:k=i∧c=true<;>by_cases e2:k=j∧d=true
  ·obtain⟨rfl,rfl⟩:=e1;obtain⟨rfl,rfl⟩:=e2;rfl
  ·rw [if_pos e1,if_neg e2,if_pos e1]
  ·rw [if_neg e1,if_pos e2,if_pos e2]
  ·rw [if_neg e1,if_neg e2,if_neg e2,if_neg e1]
theorem KU (kr:Nat→Nat) (kc:Nat→Bool) (W:Nat→Bool→Int): ∀(l:List Nat) (s:List af),(∀y∈l,kr y<s.length)→(l.foldl (fun s i=>zi s (kr i) (kc i) (W (kr i) (kc i))) s).length=s.length∧ ∀k,
  ((∃y∈l,kr y=k∧kc y=false)→(at' (l.foldl (fun s i=>zi s (kr i) (kc i) (W (kr i) (kc i))) s) k).e0=W k false)∧((∀y∈l, ¬ (kr y=k∧kc y=false))→(at' (l.foldl (fun s i=>zi s (kr i) (kc i) (W (kr i) (kc i))) s) k).e0=(at' s k).e0)∧
  ((∃y∈l,kr y=k∧kc y=true)→(at' (l.foldl (fun s i=>zi s (kr i) (kc i) (W (kr i) (kc i))) s) k).e1=W k true)∧((∀y∈l, ¬ (kr y=k∧kc y=true))→(at' (l.foldl (fun s i=>zi s (kr i) (kc i) (W (kr i) (kc i))) s) k).e1=(at' s k).e1)
 |[],s,_=> ⟨rfl,fun k=> ⟨fun⟨y,hy,_⟩=>absurd hy List.not_mem_nil,fun _=>rfl,fun⟨y,hy,_⟩=>absurd hy List.not_mem_nil,fun _=>rfl⟩⟩
 |x::l,s,h=>by
  have hx:=h x List.mem_cons_self
  obtain⟨h1,h2⟩:=KU kr kc W l (zi s (kr x) (kc x) (W (kr x) (kc x))) fun y hy=>by rw [qN];exact h y (List.mem_cons_of_mem _ hy)
  rw [List.foldl_cons]
  refine⟨by rw [h1,qN],fun k=> ?_⟩
  obtain⟨g1,g2,g3,g4⟩:=h2 k
  obtain⟨f1,f2⟩:=Ee (kc x) (W (kr x) (kc x)) hx k
  refine⟨fun⟨y,hy,e⟩=> ?_,fun hn=> ?_,fun⟨y,hy,e⟩=> ?_,fun hn=> ?_⟩
  ·by_cases q: ∃y∈l,kr y=k∧kc y=false
   ·exact g1 q
   ·rw [g2 fun y hy e=>q ⟨y,hy,e⟩,f1]
    rcases List.mem_cons.1 hy with rfl|hy
    ·rw [if_pos ⟨e.1.symm,e.2⟩,e.1,e.2]
    ·exact absurd ⟨y,hy,e⟩ q
  ·rw [g2 fun y hy=>hn y (List.mem_cons_of_mem _ hy),f1,if_neg fun q=>hn x List.mem_cons_self ⟨q.1.symm,q.2⟩]
  ·by_cases q: ∃y∈l,kr y=k∧kc y=true
   ·exact g3 q
   ·rw [g4 fun y hy e=>q ⟨y,hy,e⟩,f2]
    rcases List.mem_cons.1 hy with rfl|hy
    ·rw [if_pos ⟨e.1.symm,e.2⟩,e.1,e.2]
    ·exact absurd ⟨y,hy,e⟩ q
  ·rw [g4 fun y hy=>hn y (List.mem_cons_of_mem _ hy),f2,if_neg fun q=>hn x List.mem_cons_self ⟨q.1.symm,q.2⟩]
section
variable {p:ah} {s:State}
theorem Q0 {mp:List (af × Int)} {o:Nat} (hmp:mp=JW p s o p.racks.length) (W:Nat→Bool→Int) {body:List af→Nat→Option (List af)}
  (hb: ∀z i r c,z.length=p.racks.length→i<mp.length→r<p.racks.length→iJ s (if c=true then(at' p.racks r).feeds.e1 else(at' p.racks r).feeds.e0)=true→at' (mp.map Prod.fst) i=⟨(r:Int),if c=true then 1 else 0⟩→at' (mp.map Prod.snd) i=((2*mY p s o r c:Nat):Int)→body z i=some (zi z r c (W r c))):
  xk body mp.length (List.range mp.length) (List.replicate p.racks.length ⟨0,0⟩)=some (tab p.racks.length fun r=> ⟨if iJ s (at' p.racks r).feeds.e0=true then W r false else 0,if iJ s (at' p.racks r).feeds.e1=true then W r true else 0⟩):=by
 have ent: ∀i,i<mp.length→ ∃r c,r<p.racks.length∧iJ s (if c=true then(at' p.racks r).feeds.e1 else(at' p.racks r).feeds.e0)=true∧at' (mp.map Prod.fst) i=⟨(r:Int),if c=true then 1 else 0⟩∧at' (mp.map Prod.snd) i=((2*mY p s o r c:Nat):Int):=fun i hi=>by
  have hm:at' mp i∈JW p s o p.racks.length:=hmp ▸ at_mem hi
  obtain⟨r,h1,h2⟩:=BG.1 hm
  have q1:at' (mp.map Prod.fst) i=(at' mp i).1:=by rw [dZ (by rw [List.length_map];exact hi),List.getElem_map,←dZ hi]
  have q2:at' (mp.map Prod.snd) i=(at' mp i).2:=by rw [dZ (by rw [List.length_map];exact hi),List.getElem_map,←dZ hi]
  rcases h2 with⟨hf,e⟩|⟨hf,e⟩
  ·exact⟨r,false,h1,hf,by rw [q1,e];rfl,by rw [q2,e]⟩
  ·exact⟨r,true,h1,hf,by rw [q1,e];rfl,by rw [q2,e]⟩
 have kcd: ∀(c:Bool),decide ((if c=true then(1:Int)else 0)=1)=c:=fun c=>by cases c<;>rfl
 rw [JR (fun z:List af=>z.length=p.racks.length) mp.length (fun i z=>zi z (at' (mp.map Prod.fst) i).e0.toNat (decide ((at' (mp.map Prod.fst) i).e1=1)) (W (at' (mp.map Prod.fst) i).e0.toNat (decide ((at' (mp.map Prod.fst) i).e1=1)))) (fun z i hz hi=> ?_) (fun z i hz hi=>by rw [qN];exact hz) (fun z i j hz hi hj=> ?_) mp.length (List.range mp.length) _ List.length_range (fun y hy=>List.mem_range.1 hy) (by simp)]
 ·congr 1
  obtain⟨h1,h2⟩:=KU (fun i=>(at' (mp.map Prod.fst) i).e0.toNat) (fun i=>decide ((at' (mp.map Prod.fst) i).e1=1)) W (List.range mp.length) (List.replicate p.racks.length ⟨0,0⟩) fun y hy=>by
   obtain⟨r,c,g1,_,g3,_⟩:=ent y (List.mem_range.1 hy)
   rw [List.length_replicate,g3]
   show(r:Int).toNat<_
   omega
  refine Dm (by rw [h1,aV,List.length_replicate]) fun k hk=> ?_
  rw [h1,List.length_replicate]at hk
  rw [jV hk]
  obtain⟨f1,f2,f3,f4⟩:=h2 k
  refine RF ?_ ?_
  ·show _=if iJ s (at' p.racks k).feeds.e0=true then W k false else 0
   cases hf:iJ s (at' p.racks k).feeds.e0 with
   |true=>
    rw [if_pos rfl]
    have hm:((⟨(k:Int),0⟩:af),((2*mY p s o k false:Nat):Int))∈mp:=hmp ▸ BG.2 ⟨k,hk, .inl ⟨hf,rfl⟩⟩
    obtain⟨i,hi,e⟩:=ow hm
    refine f1 ⟨i,List.mem_range.2 hi, ?_⟩
    rw [dZ (by rw [List.length_map];exact hi),List.getElem_map,←dZ hi,e];exact⟨rfl,rfl⟩
   |false=>
    rw [if_neg (by simp),f2 fun y hy e=> ?_,dm hk]
    obtain⟨r,c,_,g2,g3,_⟩:=ent y (List.mem_range.1 hy)
    rw [g3,kcd]at e
    have e1:(r:Int).toNat=k:=e.1
    have:r=k:=by omega
    subst this
    rw [e.2,if_neg (by simp),hf]at g2;cases g2
  ·show _=if iJ s (at' p.racks k).feeds.e1=true then W k true else 0
   cases hf:iJ s (at' p.racks k).feeds.e1 with
   |true=>
    rw [if_pos rfl]
    have hm:((⟨(k:Int),1⟩:af),((2*mY p s o k true:Nat):Int))∈mp:=hmp ▸ BG.2 ⟨k,hk, .inr ⟨hf,rfl⟩⟩
    obtain⟨i,hi,e⟩:=ow hm
    refine f3 ⟨i,List.mem_range.2 hi, ?_⟩
    rw [dZ (by rw [List.length_map];exact hi),List.getElem_map,←dZ hi,e];exact⟨rfl,rfl⟩
   |false=>
    rw [if_neg (by simp),f4 fun y hy e=> ?_,dm hk]
    obtain⟨r,c,_,g2,g3,_⟩:=ent y (List.mem_range.1 hy)
    rw [g3,kcd]at e
    have e1:(r:Int).toNat=k:=e.1
    have:r=k:=by omega
    subst this
    rw [e.2,if_pos rfl,hf]at g2;cases g2
 ·obtain⟨r,c,h1,h2,h3,h4⟩:=ent i hi
  rw [hb z i r c hz hi h1 h2 h3 h4,h3,kcd];rfl
 ·obtain⟨r,c,h1,_,h3,_⟩:=ent i hi
  obtain⟨r',c',h1',_,h3',_⟩:=ent j hj
  rw [h3,h3',kcd,kcd]
  exact Sl W (by rw [hz];show(r:Int).toNat<_;omega) (by rw [hz];show(r':Int).toNat<_;omega)
end
structure BL (p:ah) (s:State) (m0 m1 m:Nat) (a b:List bg) (fr:List (List Int)) (R:Nat→Prop) (x:aA) (cut:List Bool):Prop where
 hN:NW (nodes p) m a fr
 sm:Sm m a b
 res: ∀v,v≠0→v≠1+p.buses.toNat+p.racks.length→ou m b v=ou m a v
 e0:m0=lD (bB p s) p.sources.length
 e1:m1=m0+lD (aN p s) p.links.length
 e2:m=m1+sJ p s p.racks.length
 src: ∀k,k<p.sources.length→bB p s k=true→Pr a (lD (bB p s) k) 0 (1+(at' p.sources k).bus.toNat) (at' p.sources k).power 0
 lnk: ∀k,k<p.links.length→aN p s k=true→Pr a (m0+lD (aN p s) k) (1+(at' p.links k).a.toNat) (1+(at' p.links k).b.toNat) (at' p.links k).most (at' p.links k).most
 rck: ∀r,r<p.racks.length→Pr a (m1+sJ p s r) (1+p.buses.toNat+r) (1+p.buses.toNat+p.racks.length) (at' p.racks r).power 0∧(iJ s (at' p.racks r).feeds.e0=true→Pr a (mY p s m1 r false) (1+(at' p.racks r).feeds.e0.toNat) (1+p.buses.toNat+r) (at' p.racks r).power 0)∧(iJ s (at' p.racks r).feeds.e1=true→Pr a (mY p s m1 r true) (1+(at' p.racks r).feeds.e1.toNat) (1+p.buses.toNat+r) (at' p.racks r).power 0)
 xe:x=⟨tab p.sources.length fun k=>if bB p s k=true then iW b (2*(0+lD (bB p s) k)+1)else 0,tab p.links.length fun k=>if aN p s k=true then(at' p.links k).most - iW b (2*(m0+lD (aN p s) k))else 0,tab p.racks.length fun r=> ⟨if iJ s (at' p.racks r).feeds.e0=true then iW b (2*mY p s m1 r false+1)else 0,if iJ s (at' p.racks r).feeds.e1=true then iW b (2*mY p s m1 r true+1)else 0⟩⟩
 clo:Xo m b R
 r0:R 0
 rs: ¬ R (1+p.buses.toNat+p.racks.length)
 mn: ∀K,Xo m b K→K 0→ ∀v,R v→K v
 cl:cut.length=p.buses.toNat
 ct: ∀v:Nat,(v:Int)<p.buses→(at' cut v=true↔R (v+1))
theorem mG (j:Nat):tw (2*j)=2*j+1:=by unfold tw;rw [if_pos (by omega)]
theorem AQ (j:Nat):tw (2*j+1)=2*j:=by unfold tw;rw [if_neg (by omega)];omega
theorem Ve {p:ah} {s:State} {o r:Nat} (c:Bool) (hf:iJ s (if c=true then(at' p.racks r).feeds.e1 else(at' p.racks r).feeds.e0)=true):mY p s o r c<o+sJ p s r+Ux p s r:=by
 unfold mY Ux
 cases c with
 |false=>
  rw [if_neg (by simp)]at hf
  rw [if_pos hf,if_neg (by simp)];omega
 |true=>
  rw [if_pos rfl]at hf
  rw [if_pos hf]
  cases iJ s (at' p.racks r).feeds.e0<;>simp
section
variable {p:ah} {s:State} (hp:VP p) (hs:VS p s)
include hp hs
theorem Sq: ∃m0 m1 m a b fr R x cut,bN p s=some (x,cut,0)∧BL p s m0 m1 m a b fr R x cut:=by
 have hb:=hp.b;have hsl:=hp.sl;have hll:=hp.ll;have hrl:=hp.rl
 obtain⟨a0,fr0,l0,n0,p0⟩:=UN hp hs
 have c0:=MX (bB p s) p.sources.length
 have c1:=MX (aN p s) p.links.length
 have c2:=UL p s p.racks.length
 obtain⟨a1,fr1,l1,n1,k1,p1⟩:=WS hp hs n0 (by omega)
 obtain⟨a2,fr2,l2,n2,k2,p2⟩:=WU hp hs n1 (by omega) (List.replicate p.racks.length ⟨0,0⟩)
 generalize hm0:lD (bB p s) p.sources.length=m0 at*
 generalize hm1:m0+lD (aN p s) p.links.length=m1 at*
 generalize hm2:m1+sJ p s p.racks.length=m at*
 obtain⟨b,f1,sm,res,ap⟩:=YT n2 (sink:=1+p.buses.toNat+p.racks.length) (by omega) (by unfold nodes;omega)
 have nb:=n2.same sm
 obtain⟨cut,r1,cl,R,clo,r0,rn,mn,ct⟩:=SL nb (p:=p) (by unfold nodes;omega)
 have hm:m≤1000:=n2.m1
 have lB: ∀j,j<2*m→0≤iW b j∧iW b j≤1000000:=fun j hj=>by
  have h1:=nb.left j hj;have h2:=nb.left _ (Ev hj);omega
 have srcs: ∀k,k<p.sources.length→bB p s k=true→lD (bB p s) k<m:=fun k hk hf=>by
  have:=zA hk hf;omega
 have lnks: ∀k,k<p.links.length→aN p s k=true→m0+lD (aN p s) k<m:=fun k hk hf=>by
  have:=zA hk hf;omega
 have rcks: ∀r c,r<p.racks.length→iJ s (if c=true then(at' p.racks r).feeds.e1 else(at' p.racks r).feeds.e0)=true→mY p s m1 r c<m:=fun r c hr hf=>by
  have:=Ve (o:=m1) c hf
  have:=ML (p:=p) (s:=s) hr
  omega
 have x4:=KS (mp:=KQ (bB p s) 0 p.sources.length) rfl (fun k=>iW b (2*(0+lD (bB p s) k)+1)) (body:=jM (KQ (bB p s) 0 p.sources.length) ⟨b,fr2⟩) (fun z i k hz hi hk hf e1 e2=>by
  have:=srcs k hk hf
  unfold jM
  rw [e1,e2,xor_eq (by omega),mG,ai ⟨by rw [nb.len];omega,by omega⟩,Int.toNat_natCast,Int.toNat_natCast];rfl)
 have x5:=KS (mp:=KQ (aN p s) m0 p.links.length) rfl (fun k=>(at' p.links k).most - iW b (2*(m0+lD (aN p s) k))) (body:=jO p.links (KQ (aN p s) m0 p.links.length) ⟨b,fr2⟩) (fun z i k hz hi hk hf e1 e2=>by
  have:=lnks k hk hf
  have hw:=(hp.lnk k hk).most
  have hl:=lB (2*(m0+lD (aN p s) k)) (by omega)
  unfold jO
  rw [e1,e2,ai ⟨by omega,by rw [nb.len];omega,by omega⟩,Int.toNat_natCast,Int.toNat_natCast]
  show some (z.set k (IntKind.wrap .i64 ((at' p.links k).most - iW b (2*(m0+lD (aN p s) k)))))=_
  rw [wr (by omega)])
 have x6:=Q0 (p:=p) (s:=s) (mp:=JW p s m1 p.racks.length) rfl (fun r c=>iW b (2*mY p s m1 r c+1)) (body:=jL (JW p s m1 p.racks.length) ⟨b,fr2⟩) (fun z i r c hz hi hr hf e1 e2=>by
  have:=rcks r c hr hf
  unfold jL
  rw [e1,e2,xor_eq (by omega),mG]
  dsimp only
  have q1:((0:Int)≤((2*mY p s m1 r c+1:Nat):Int)∧((2*mY p s m1 r c+1:Nat):Int)<(b.length:Int))∧((0:Int)≤(r:Int)∧(r:Int)<(z.length:Int)):=⟨by rw [nb.len];omega,by omega⟩
  cases c with
  |false=>rw [if_neg (by simp),decide_eq_true rfl,cond_true,ai q1];rfl
  |true=>rw [if_pos rfl,decide_eq_false (by omega),cond_false,ai rfl,ai q1];rfl)
 refine⟨m0,m1,m,a2,b,fr2,R,_,cut, ?_,⟨n2,sm,res,hm0.symm,hm1.symm,hm2.symm,fun k hk hf=>k2 _ _ _ _ _ (by have:=zA hk hf;omega) (k1 _ _ _ _ _ (by have:=zA hk hf;omega) (p0 k hk hf)),fun k hk hf=>k2 _ _ _ _ _ (by have:=zA hk hf;omega) (p1 k hk hf),p2,rfl,clo,r0,fun h=> ?_,mn,cl,ct⟩⟩
 ·have e3:IntKind.wrap .i64 (IntKind.wrap .i64 (1+p.buses)+(p.racks.length:Int))=((1+p.buses.toNat+p.racks.length:Nat):Int):=by rw [wr (x:=1+p.buses) (by omega),wr (by omega)];omega
  have e4:IntKind.wrap .i64 (((1+p.buses.toNat+p.racks.length:Nat):Int)+1)=((nodes p:Nat):Int):=by unfold nodes;rw [wr (by omega)];omega
  have e5:nodes p≤100:=by unfold nodes;omega
  unfold bN
  rw [jX p s hp.small,eD.mpr ⟨hp,hs⟩,Option.bind_some,decide_eq_true rfl,Bool.not_true,cond_false,e3,e4,ai ⟨by omega,by omega,by omega⟩,ai ⟨by omega,by omega,by omega,by omega,by omega,by omega,by omega,by omega,by omega⟩,Int.toNat_natCast,l0]
  simp only [Option.bind_some]
  rw [l1]
  simp only [Option.bind_some]
  rw [Int.toNat_natCast,l2]
  simp only [Option.bind_some]
  rw [f1,Option.bind_some,x4,Option.bind_some,x5,Option.bind_some,x6,Option.bind_some,ai ⟨by omega,by omega,by omega⟩]
  unfold fM
  rw [Option.bind_some]
  have r1':dP b fr2 ⟨p.buses,p.sources,p.links,p.racks⟩ (List.replicate p.buses.toNat false)=some cut:=r1
  rw [r1',Option.bind_some]
 ·obtain⟨K,h1,h2,h3⟩:=ap
  exact h3 (mn K h1 h2 _ h)
end
structure Ps (p:ah) (s:State) (x:aA):Prop where
 l1:x.sources.length=p.sources.length
 l2:x.links.length=p.links.length
 l3:x.racks.length=p.racks.length
 sS: ∀k,k<p.sources.length→0≤at' x.sources k∧at' x.sources k≤(at' p.sources k).power∧(bB p s k=false→at' x.sources k=0)
 sL: ∀i,i<p.links.length→ -(at' p.links i).most≤at' x.links i∧at' x.links i≤(at' p.links i).most∧(aN p s i=false→at' x.links i=0)
 sR: ∀r,r<p.racks.length→0≤(at' x.racks r).e0∧0≤(at' x.racks r).e1∧(at' x.racks r).e0+(at' x.racks r).e1≤(at' p.racks r).power∧(iJ s (at' p.racks r).feeds.e0=false→(at' x.racks r).e0=0)∧(iJ s (at' p.racks r).feeds.e1=false→(at' x.racks r).e1=0)
 bl: ∀b:Nat,(b:Int)<p.buses→LW p x b=0
def PL (p:ah) (x:aA):Int:=aU p.racks.length fun r=>(at' x.racks r).e0+(at' x.racks r).e1
def Xh (p:ah) (x:aA) (D:Nat→Bool) (k:Nat):Int:=if D (at' p.sources k).bus.toNat=true then 0 else at' x.sources k
def TY (p:ah) (x:aA) (D:Nat→Bool) (i:Nat):Int:=(if D (at' p.links i).a.toNat=true then at' x.links i else 0) - (if D (at' p.links i).b.toNat=true then at' x.links i else 0)
def PY (p:ah) (x:aA) (D:Nat→Bool) (r:Nat):Int:=(if D (at' p.racks r).feeds.e0.toNat=true then(at' x.racks r).e0 else 0)+(if 0≤(at' p.racks r).feeds.e1∧D (at' p.racks r).feeds.e1.toNat=true then(at' x.racks r).e1 else 0)
theorem Aq {N:Nat} {D:Nat→Bool} {z v:Int} (hz:z<N):(aU N fun b=>if D b=true then(if z=(b:Int)then v else 0)else 0)=if 0≤z∧D z.toNat=true then v else 0:=by
 by_cases h0:0≤z
 ·have e:(fun b:Nat=>if D b=true then(if z=(b:Int)then v else 0)else 0)=fun b=>if b=z.toNat then(if D b=true then v else 0)else 0:=funext fun b=>by
   by_cases e1:b=z.toNat
   ·rw [if_pos e1,if_pos (show z=(b:Int) by omega)]
   ·rw [if_neg e1,if_neg (show ¬ z=(b:Int) by omega)];split<;>rfl
  rw [e,Ht (fun b=>if D b=true then v else 0) (by omega)]
  by_cases e2:D z.toNat=true
  ·rw [if_pos e2,if_pos ⟨h0,e2⟩]
  ·rw [if_neg e2,if_neg fun q=>e2 q.2]
 ·rw [if_neg fun q=>h0 q.1,bR (g:=fun _=>0) fun b _=>by rw [if_neg (show ¬ z=(b:Int) by omega)];split<;>rfl,nV]
section
variable {p:ah} {s:State} (hp:VP p) (hs:VS p s) {x:aA} (hx:Ps p s x)
include hp hs hx
theorem Rs (D:Nat→Bool):(aU p.sources.length fun k=>if D (at' p.sources k).bus.toNat=true then at' x.sources k else 0)=(aU p.links.length (TY p x D))+aU p.racks.length (PY p x D):=by
 have hb:=hp.b
 have h0:(aU p.buses.toNat fun b=>if D b=true then LW p x b else 0)=0:=by
  rw [bR (g:=fun _=>0) fun b hb=>by rw [hx.bl b (by omega)];split<;>rfl,nV]
 have e1:(fun b=>if D b=true then LW p x b else 0)=fun b=>((aU p.sources.length fun k=>if D b=true then Pp p x b k else 0)+(aU p.links.length fun k=>if D b=true then Ku p x b k else 0)) - (aU p.racks.length fun k=>if D b=true then JV p x b k else 0):=funext fun b=>by
  cases D b with
  |true=>simp only [if_true];rfl
  |false=>simp [nV]
 rw [e1,EG,Ba,FJ,FJ p.buses.toNat p.links.length,FJ p.buses.toNat p.racks.length]at h0
 have s1:(aU p.sources.length fun k=>aU p.buses.toNat fun b=>if D b=true then Pp p x b k else 0)=aU p.sources.length fun k=>if D (at' p.sources k).bus.toNat=true then at' x.sources k else 0:=by
  refine bR fun k hk=> ?_
  have hv:=(hp.src k hk).bus
  unfold Pp
  rw [Aq (by omega)]
  by_cases h:D (at' p.sources k).bus.toNat=true
  ·rw [if_pos h,if_pos ⟨hv.1,h⟩]
  ·rw [if_neg h,if_neg fun q=>h q.2]
 have s2:(aU p.links.length fun k=>aU p.buses.toNat fun b=>if D b=true then Ku p x b k else 0)= - aU p.links.length (TY p x D):=by
  rw [←EN]
  refine bR fun k hk=> ?_
  have hv:=hp.lnk k hk;have ha:=hv.a;have hbb:=hv.b
  have e:(fun b=>if D b=true then Ku p x b k else 0)=fun b=>(if D b=true then(if(at' p.links k).b=(b:Int)then at' x.links k else 0)else 0) - (if D b=true then(if(at' p.links k).a=(b:Int)then at' x.links k else 0)else 0):=funext fun b=>by
   unfold Ku;cases D b<;>simp
  rw [e,EG,Aq (by omega),Aq (by omega)]
  unfold TY
  cases D (at' p.links k).b.toNat<;>cases D (at' p.links k).a.toNat<;>simp [ha.1,hbb.1]
 have s3:(aU p.racks.length fun k=>aU p.buses.toNat fun b=>if D b=true then JV p x b k else 0)=aU p.racks.length (PY p x D):=by
  refine bR fun k hk=> ?_
  have hv:=hp.rck k hk;have ha:=hv.e0;have hbb:=hv.e1
  have e:(fun b=>if D b=true then JV p x b k else 0)=fun b=>(if D b=true then(if(at' p.racks k).feeds.e0=(b:Int)then(at' x.racks k).e0 else 0)else 0)+(if D b=true then(if(at' p.racks k).feeds.e1=(b:Int)then(at' x.racks k).e1 else 0)else 0):=funext fun b=>by
   unfold JV;cases D b<;>simp
  rw [e,Ba,Aq (by omega),Aq (by omega)]
  unfold PY
  cases D (at' p.racks k).feeds.e0.toNat<;>simp [ha.1]
 rw [s1,s2,s3]at h0
 omega
theorem F8 (D:Nat→Bool):PL p x=aU p.sources.length (Xh p x D)+aU p.links.length (TY p x D)+aU p.racks.length (PY p x D):=by
 have hb:=hp.b
 have h1:=Rs hp hs hx D
 have h2:=Rs hp hs hx fun _=>true
 have e1:(aU p.links.length (TY p x fun _=>true))=0:=by
  rw [bR (g:=fun _=>0) fun i _=>by unfold TY;simp,nV]
 have e2:(aU p.racks.length (PY p x fun _=>true))=PL p x:=by
  refine bR fun r hr=> ?_
  have hv:=hp.rck r hr;have hw:=hx.sR r hr
  unfold PY
  rw [if_pos rfl]
  by_cases h:0≤(at' p.racks r).feeds.e1
  ·rw [if_pos ⟨h,rfl⟩]
  ·rw [if_neg fun q=>h q.1,hw.2.2.2.2 (by unfold iJ;rw [decide_eq_false h];rfl)]
 have e3:(aU p.sources.length fun k=>if(true:Bool)=true then at' x.sources k else 0)=(aU p.sources.length (Xh p x D))+aU p.sources.length fun k=>if D (at' p.sources k).bus.toNat=true then at' x.sources k else 0:=by
  rw [←Ba]
  refine bR fun k _=> ?_
  unfold Xh
  cases D (at' p.sources k).bus.toNat<;>simp
 have h2':(aU p.sources.length fun k=>if(true:Bool)=true then at' x.sources k else 0)=_:=h2
 rw [e3,e1,e2]at h2'
 omega
def Ky (p:ah) (s:State) (D:Nat→Bool):Prop:= ∀b:Nat,(b:Int)<p.buses→D b=true→at' s.badBus b=false
omit hx in
theorem Zl {D:Nat→Bool} (hD:Ky p s D) {b:Int} (hb:0≤b∧b<p.buses) (h:D b.toNat=true):iJ s b=true:=by
 unfold iJ
 rw [decide_eq_true hb.1,hD b.toNat (by omega) h];rfl
theorem Zj {D:Nat→Bool} (hD:Ky p s D):(∀k,k<p.sources.length→Xh p x D k≤JU p s D k)∧(∀i,i<p.links.length→TY p x D i≤JS p s D i)∧ ∀r,r<p.racks.length→PY p x D r≤Kk p D r:=by
 refine⟨fun k hk=> ?_,fun i hi=> ?_,fun r hr=> ?_⟩
 ·have h:=hx.sS k hk
  have hw:=(hp.src k hk).power
  unfold Xh JU
  cases D (at' p.sources k).bus.toNat<;>cases hf:bB p s k<;>simp
  ·have:=h.2.2 hf;omega
  ·omega
 ·have h:=hx.sL i hi
  have hw:=(hp.lnk i hi).most
  unfold TY JS
  cases hc:aN p s i
  ·have:=h.2.2 hc;rw [this];simp
  ·cases D (at' p.links i).a.toNat<;>cases D (at' p.links i).b.toNat<;>simp<;>omega
 ·have h:=hx.sR r hr
  have hv:=hp.rck r hr;have hw:=hv.power
  unfold PY Kk Rv
  cases D (at' p.racks r).feeds.e0.toNat<;>cases D (at' p.racks r).feeds.e1.toNat<;>by_cases h1:0≤(at' p.racks r).feeds.e1<;>simp [h1]<;>omega
theorem aa9 {D:Nat→Bool} (hD:Ky p s D):PL p x≤oV p s D:=by
 obtain⟨h1,h2,h3⟩:=Zj hp hs hx hD
 rw [F8 hp hs hx D]
 have:=xg h1;have:=xg h2;have:=xg h3
 unfold oV;omega
theorem Uk {D:Nat→Bool} (hD:Ky p s D) (e:PL p x=oV p s D):(∀k,k<p.sources.length→Xh p x D k=JU p s D k)∧(∀i,i<p.links.length→TY p x D i=JS p s D i)∧ ∀r,r<p.racks.length→PY p x D r=Kk p D r:=by
 obtain⟨h1,h2,h3⟩:=Zj hp hs hx hD
 rw [F8 hp hs hx D]at e
 have q1:=xg h1;have q2:=xg h2;have q3:=xg h3
 unfold oV at e
 exact⟨xO h1 (by omega),xO h2 (by omega),xO h3 (by omega)⟩
theorem Mj {D:Nat→Bool} (h1: ∀k,k<p.sources.length→Xh p x D k=JU p s D k) (h2: ∀i,i<p.links.length→TY p x D i=JS p s D i) (h3: ∀r,r<p.racks.length→PY p x D r=Kk p D r):PL p x=oV p s D:=by
 rw [F8 hp hs hx D]
 unfold oV
 rw [bR h1,bR h2,bR h3]
theorem Ps.afq:H9 p s x=true:=by
 unfold H9
 have e1:Fq p x=true:=by unfold Fq;simp [hx.l1,hx.l2,hx.l3]
 have e2:(List.range p.sources.length).any (Tv p s x)=false:=by
  rw [List.any_eq_false]
  intro k hk
  have h:=hx.sS k (List.mem_range.1 hk)
  unfold Tv
  rw [decide_eq_false (by omega),decide_eq_false (by omega)]
  cases hf:bB p s k
  ·rw [decide_eq_false (by have:=h.2.2 hf;omega)];simp
  ·simp
 have e3:(List.range p.links.length).any (Tn p s x)=false:=by
  rw [List.any_eq_false]
  intro k hk
  have h:=hx.sL k (List.mem_range.1 hk)
  unfold Tn
  rw [decide_eq_false (by omega),decide_eq_false (by omega)]
  cases hf:aN p s k
  ·rw [decide_eq_true (h.2.2 hf)];simp
  ·simp
 have e4:(List.range p.racks.length).any (Ua p s x)=false:=by
  rw [List.any_eq_false]
  intro r hk
  have h:=hx.sR r (List.mem_range.1 hk)
  unfold Ua Gb
  rw [decide_eq_false (show ¬ (at' x.racks r).e0<0 by omega),decide_eq_false (show ¬ (at' x.racks r).e1<0 by omega),decide_eq_false (show ¬ (at' p.racks r).power<(at' x.racks r).e0 by omega),decide_eq_false (show ¬ (at' p.racks r).power<(at' x.racks r).e1 by omega),decide_eq_false (show ¬ (at' p.racks r).power<(at' x.racks r).e0+(at' x.racks r).e1 by omega)]
  cases h0:iJ s (at' p.racks r).feeds.e0<;>cases h1:iJ s (at' p.racks r).feeds.e1
  ·rw [h.2.2.2.1 h0,h.2.2.2.2 h1];simp
  ·rw [h.2.2.2.1 h0];simp
  ·rw [h.2.2.2.2 h1];simp
  ·simp
 have e5:((List.range p.buses.toNat).all fun b=>decide (LW p x b=0))=true:=by
  rw [List.all_eq_true]
  intro b hb
  have:=List.mem_range.1 hb
  exact decide_eq_true (hx.bl b (by omega))
 rw [e1,e2,e3,e4,e5];rfl
end
theorem FT (f:Nat→Int): ∀m,aU (2*m) f=aU m fun j=>f (2*j)+f (2*j+1)
 |0=>rfl
 |m+1=>by rw [show 2*(m+1)=2*m+1+1 by omega,aU,aU,aU,FT f m];omega
theorem RV (p:ah) (s:State) (g:Nat→Int) (o:Nat): ∀k,aU (o+sJ p s k) g=aU o g+aU k fun r=>g (o+sJ p s r)+(if iJ s (at' p.racks r).feeds.e0=true then g (mY p s o r false)else 0)+(if iJ s (at' p.racks r).feeds.e1=true then g (mY p s o r true)else 0)
 |0=>by simp [sJ,aU]
 |k+1=>by
  have ih:=RV p s g o k
  have e:aU (o+sJ p s (k+1)) g=aU (o+sJ p s k) g+(g (o+sJ p s k)+(if iJ s (at' p.racks k).feeds.e0=true then g (mY p s o k false)else 0)+(if iJ s (at' p.racks k).feeds.e1=true then g (mY p s o k true)else 0)):=by
   rw [AR]
   unfold Ux mY
   cases h0:iJ s (at' p.racks k).feeds.e0<;>cases h1:iJ s (at' p.racks k).feeds.e1<;>simp
   ·rw [show o+(sJ p s k+1)=(o+sJ p s k)+1 by omega,aU]
   ·rw [show o+(sJ p s k+(1+1))=(o+sJ p s k)+1+1 by omega,aU,aU];omega
   ·rw [show o+(sJ p s k+(1+1))=(o+sJ p s k)+1+1 by omega,aU,aU];omega
   ·rw [show o+(sJ p s k+(1+1+1))=(o+sJ p s k)+1+1+1 by omega,aU,aU,aU,show o+sJ p s k+2=o+sJ p s k+1+1 from rfl];omega
  rw [e,ih,aU];omega
theorem Fw {f:Nat→Bool}: ∀{k j:Nat},j<lD f k→ ∃i,i<k∧f i=true∧j=lD f i
 |0,j,h=>by simp [lD]at h
 |k+1,j,h=>by
  rw [Ff]at h
  by_cases h2:j<lD f k
  ·obtain⟨i,h3,h4,h5⟩:=Fw h2
   exact⟨i,by omega,h4,h5⟩
  ·split at h
   ·rename_i hf;exact⟨k,by omega,hf,by omega⟩
   ·omega
theorem KH {p:ah} {s:State} {o:Nat}: ∀{k j:Nat},o≤j→j<o+sJ p s k→ ∃r,r<k∧(j=o+sJ p s r∨(iJ s (at' p.racks r).feeds.e0=true∧j=mY p s o r false)∨(iJ s (at' p.racks r).feeds.e1=true∧j=mY p s o r true))
 |0,j,h0,h=>by simp [sJ]at h;omega
 |k+1,j,h0,h=>by
  rw [AR]at h
  by_cases h2:j<o+sJ p s k
  ·obtain⟨i,h3,h4⟩:=KH h0 h2
   exact⟨i,by omega,h4⟩
  ·refine⟨k,by omega, ?_⟩
   unfold Ux at h
   unfold mY
   cases e0:iJ s (at' p.racks k).feeds.e0<;>cases e1:iJ s (at' p.racks k).feeds.e1<;>simp [e0,e1]at h ⊢ <;>omega
section
variable {p:ah} {s:State} {m0 m1 m:Nat} {a b:List bg} {fr:List (List Int)} {R:Nat→Prop} {x:aA} {cut:List Bool}
theorem BL.j1 (h:BL p s m0 m1 m a b fr R x cut) {k:Nat} (hk:k<p.sources.length) (hf:bB p s k=true):lD (bB p s) k<m:=by
 have:=zA hk hf;have:=h.e0;have:=h.e1;have:=h.e2;omega
theorem BL.j2 (h:BL p s m0 m1 m a b fr R x cut) {k:Nat} (hk:k<p.links.length) (hf:aN p s k=true):m0+lD (aN p s) k<m:=by
 have:=zA hk hf;have:=h.e1;have:=h.e2;omega
theorem BL.j3 (h:BL p s m0 m1 m a b fr R x cut) {r:Nat} (hr:r<p.racks.length):m1+sJ p s r<m:=by
 have:=ML (p:=p) (s:=s) hr;have:=Rf p s r;have:=h.e2;omega
theorem BL.j4 (h:BL p s m0 m1 m a b fr R x cut) {r:Nat} (hr:r<p.racks.length) (c:Bool) (hf:iJ s (if c=true then(at' p.racks r).feeds.e1 else(at' p.racks r).feeds.e0)=true):mY p s m1 r c<m:=by
 have:=Ve (o:=m1) c hf
 have:=ML (p:=p) (s:=s) hr;have:=h.e2;omega
theorem BL.kinds (h:BL p s m0 m1 m a b fr R x cut) {j:Nat} (hj:j<m):
  (∃k,k<p.sources.length∧bB p s k=true∧j=lD (bB p s) k)∨(∃k,k<p.links.length∧aN p s k=true∧j=m0+lD (aN p s) k)∨
  ∃r,r<p.racks.length∧(j=m1+sJ p s r∨(iJ s (at' p.racks r).feeds.e0=true∧j=mY p s m1 r false)∨(iJ s (at' p.racks r).feeds.e1=true∧j=mY p s m1 r true)):=by
 have e0:=h.e0;have e1:=h.e1;have e2:=h.e2
 by_cases h1:j<m0
 ·rw [e0]at h1;exact .inl (Fw h1)
 ·by_cases h2:j<m1
  ·obtain⟨k,g1,g2,g3⟩:=Fw (f:=aN p s) (k:=p.links.length) (j:=j - m0) (by omega)
   exact .inr (.inl ⟨k,g1,g2,by omega⟩)
  ·exact .inr (.inr (KH (by omega) (by omega)))
theorem BL.pair (h:BL p s m0 m1 m a b fr R x cut) {j u v:Nat} {t k:Int} (hP:Pr a j u v t k) (hj:j<m):tgt a (2*j)=v∧tgt a (2*j+1)=u∧tgt b (2*j)=v∧tgt b (2*j+1)=u∧iW a (2*j)=t∧iW a (2*j+1)=k∧iW b (2*j)+iW b (2*j+1)=t+k∧0≤iW b (2*j)∧0≤iW b (2*j+1):=by
 have t1:tgt a (2*j)=v:=by unfold tgt;rw [hP.1];rfl
 have t2:tgt a (2*j+1)=u:=by unfold tgt;rw [hP.2];rfl
 have l1:iW a (2*j)=t:=by unfold iW;rw [hP.1]
 have l2:iW a (2*j+1)=k:=by unfold iW;rw [hP.2]
 have:=h.sm.sum (2*j) (by omega)
 rw [mG,l1,l2]at this
 exact⟨t1,t2,(h.sm.tgt _).trans t1,(h.sm.tgt _).trans t2,l1,l2,this,h.sm.pos _ (by omega),h.sm.pos _ (by omega)⟩
def dl (a b:List bg) (j:Nat):Int:=iW b (2*j+1) - iW a (2*j+1)
theorem BL.flow (h:BL p s m0 m1 m a b fr R x cut) {v:Nat} (h0:v≠0) (h1:v≠1+p.buses.toNat+p.racks.length):
  let g:=fun j=>(if tgt a (2*j+1)=v then dl a b j else 0) - (if tgt a (2*j)=v then dl a b j else 0)
  (aU p.sources.length fun k=>if bB p s k=true then g (lD (bB p s) k)else 0)+(aU p.links.length fun k=>if aN p s k=true then g (m0+lD (aN p s) k)else 0)+(aU p.racks.length fun r=>g (m1+sJ p s r)+(if iJ s (at' p.racks r).feeds.e0=true then g (mY p s m1 r false)else 0)+(if iJ s (at' p.racks r).feeds.e1=true then g (mY p s m1 r true)else 0))=0:=by
 intro g
 have e:aU m g=0:=by
  have hr:=h.res v h0 h1
  unfold ou at hr
  rw [FT,FT]at hr
  have e1:aU m g=(aU m fun j=>(if tgt b (2*j)=v then iW b (2*j)else 0)+(if tgt b (2*j+1)=v then iW b (2*j+1)else 0)) - (aU m fun j=>(if tgt a (2*j)=v then iW a (2*j)else 0)+(if tgt a (2*j+1)=v then iW a (2*j+1)else 0)):=by
   rw [←EG]
   refine bR fun j hj=> ?_
   have hs:=h.sm.sum (2*j) (by omega)
   rw [mG]at hs
   show(if tgt a (2*j+1)=v then dl a b j else 0) - (if tgt a (2*j)=v then dl a b j else 0)=_
   rw [h.sm.tgt,h.sm.tgt]
   unfold dl
   by_cases c1:tgt a (2*j+1)=v<;>by_cases c2:tgt a (2*j)=v<;>simp only [c1,c2,if_true,if_false]<;>omega
  omega
 have d1:=RV p s g m1 p.racks.length
 rw [←h.e2]at d1
 have d2:=MO (aN p s) g m0 p.links.length
 rw [←h.e1]at d2
 have d3:=MO (bB p s) g 0 p.sources.length
 rw [Nat.zero_add,←h.e0]at d3
 have d4:(aU p.sources.length fun i=>if bB p s i=true then g (0+lD (bB p s) i)else 0)=aU p.sources.length fun k=>if bB p s k=true then g (lD (bB p s) k)else 0:=bR fun i _=>by rw [Nat.zero_add]
 rw [d1,d2,d3,d4]at e
 simp only [aU]at e
 omega
variable (hp:VP p) (hs:VS p s)
include hp hs
theorem BL.xS (h:BL p s m0 m1 m a b fr R x cut) {k:Nat} (hk:k<p.sources.length):at' x.sources k=if bB p s k=true then dl a b (lD (bB p s) k)else 0:=by
 rw [h.xe]
 show at' (tab p.sources.length _) k=_
 rw [jV hk,Nat.zero_add]
 cases hf:bB p s k with
 |false=>rfl
 |true=>
  have:=h.pair (h.src k hk hf) (h.j1 hk hf)
  rw [if_pos rfl,if_pos rfl]
  unfold dl;omega
theorem BL.xL (h:BL p s m0 m1 m a b fr R x cut) {k:Nat} (hk:k<p.links.length):at' x.links k=if aN p s k=true then dl a b (m0+lD (aN p s) k)else 0:=by
 rw [h.xe]
 show at' (tab p.links.length _) k=_
 rw [jV hk]
 cases hf:aN p s k with
 |false=>rfl
 |true=>
  have:=h.pair (h.lnk k hk hf) (h.j2 hk hf)
  rw [if_pos rfl,if_pos rfl]
  unfold dl;omega
theorem BL.xR (h:BL p s m0 m1 m a b fr R x cut) {r:Nat} (hr:r<p.racks.length):(at' x.racks r).e0=(if iJ s (at' p.racks r).feeds.e0=true then dl a b (mY p s m1 r false)else 0)∧(at' x.racks r).e1=(if iJ s (at' p.racks r).feeds.e1=true then dl a b (mY p s m1 r true)else 0):=by
 have e:at' x.racks r=⟨if iJ s (at' p.racks r).feeds.e0=true then iW b (2*mY p s m1 r false+1)else 0,if iJ s (at' p.racks r).feeds.e1=true then iW b (2*mY p s m1 r true+1)else 0⟩:=by rw [h.xe];exact jV hr
 rw [e]
 obtain⟨_,q1,q2⟩:=h.rck r hr
 constructor
 ·show(if iJ s (at' p.racks r).feeds.e0=true then iW b (2*mY p s m1 r false+1)else 0)=_
  cases hf:iJ s (at' p.racks r).feeds.e0 with
  |false=>rfl
  |true=>
   have:=h.pair (q1 hf) (h.j4 hr false (by simpa using hf))
   rw [if_pos rfl,if_pos rfl]
   unfold dl;omega
 ·show(if iJ s (at' p.racks r).feeds.e1=true then iW b (2*mY p s m1 r true+1)else 0)=_
  cases hf:iJ s (at' p.racks r).feeds.e1 with
  |false=>rfl
  |true=>
   have:=h.pair (q2 hf) (h.j4 hr true (by simpa using hf))
   rw [if_pos rfl,if_pos rfl]
   unfold dl;omega
theorem BL.aaG (h:BL p s m0 m1 m a b fr R x cut) {r:Nat} (hr:r<p.racks.length):(at' x.racks r).e0+(at' x.racks r).e1=dl a b (m1+sJ p s r):=by
 have hb:=hp.b
 have f:=h.flow (v:=1+p.buses.toNat+r) (by omega) (by omega)
 dsimp only at f
 have z1:(aU p.sources.length fun k=>if bB p s k=true then(if tgt a (2*lD (bB p s) k+1)=1+p.buses.toNat+r then dl a b (lD (bB p s) k)else 0) - (if tgt a (2*lD (bB p s) k)=1+p.buses.toNat+r then dl a b (lD (bB p s) k)else 0)else 0)=0:=by
  rw [bR (g:=fun _=>0) fun k hk=> ?_,nV]
  have hv:=(hp.src k hk).bus
  by_cases hf:bB p s k=true
  ·have:=h.pair (h.src k hk hf) (h.j1 hk hf)
   rw [if_pos hf,if_neg (by omega),if_neg (by omega)];rfl
  ·rw [if_neg hf]
 have z2:(aU p.links.length fun k=>if aN p s k=true then(if tgt a (2*(m0+lD (aN p s) k)+1)=1+p.buses.toNat+r then dl a b (m0+lD (aN p s) k)else 0) - (if tgt a (2*(m0+lD (aN p s) k))=1+p.buses.toNat+r then dl a b (m0+lD (aN p s) k)else 0)else 0)=0:=by
  rw [bR (g:=fun _=>0) fun k hk=> ?_,nV]
  have ha:=(hp.lnk k hk).a;have hbb:=(hp.lnk k hk).b
  by_cases hf:aN p s k=true
  ·have:=h.pair (h.lnk k hk hf) (h.j2 hk hf)
   rw [if_pos hf,if_neg (by omega),if_neg (by omega)];rfl
  ·rw [if_neg hf]
 rw [z1,z2,bR (g:=fun r'=>if r'=r then dl a b (m1+sJ p s r) - ((at' x.racks r).e0+(at' x.racks r).e1)else 0) fun r' hr'=> ?_,Ht (fun _=>dl a b (m1+sJ p s r) - ((at' x.racks r).e0+(at' x.racks r).e1)) hr]at f
 ·omega
 ·obtain⟨q0,q1,q2⟩:=h.rck r' hr'
  have ha:=(hp.rck r' hr').e0;have hbb:=(hp.rck r' hr').e1
  have p0:=h.pair q0 (h.j3 hr')
  have x0:=h.xR hp hs hr'
  have c1:(if iJ s (at' p.racks r').feeds.e0=true then(if tgt a (2*mY p s m1 r' false+1)=1+p.buses.toNat+r then dl a b (mY p s m1 r' false)else 0) - (if tgt a (2*mY p s m1 r' false)=1+p.buses.toNat+r then dl a b (mY p s m1 r' false)else 0)else 0)=if r'=r then - (at' x.racks r').e0 else 0:=by
   by_cases hf:iJ s (at' p.racks r').feeds.e0=true
   ·have p1:=h.pair (q1 hf) (h.j4 hr' false (by simpa using hf))
    rw [if_pos hf,x0.1,if_pos hf,if_neg (show ¬ tgt a (2*mY p s m1 r' false+1)=1+p.buses.toNat+r by omega)]
    by_cases e:r'=r
    ·rw [if_pos (by omega),if_pos e];omega
    ·rw [if_neg (by omega),if_neg e];omega
   ·rw [if_neg hf,x0.1,if_neg hf];split<;>rfl
  have c2:(if iJ s (at' p.racks r').feeds.e1=true then(if tgt a (2*mY p s m1 r' true+1)=1+p.buses.toNat+r then dl a b (mY p s m1 r' true)else 0) - (if tgt a (2*mY p s m1 r' true)=1+p.buses.toNat+r then dl a b (mY p s m1 r' true)else 0)else 0)=if r'=r then - (at' x.racks r').e1 else 0:=by
   by_cases hf:iJ s (at' p.racks r').feeds.e1=true
   ·have p1:=h.pair (q2 hf) (h.j4 hr' true (by simpa using hf))
    rw [if_pos hf,x0.2,if_pos hf,if_neg (show ¬ tgt a (2*mY p s m1 r' true+1)=1+p.buses.toNat+r by omega)]
    by_cases e:r'=r
    ·rw [if_pos (by omega),if_pos e];omega
    ·rw [if_neg (by omega),if_neg e];omega
   ·rw [if_neg hf,x0.2,if_neg hf];split<;>rfl
  rw [c1,c2,if_neg (show ¬ tgt a (2*(m1+sJ p s r'))=1+p.buses.toNat+r by omega)]
  by_cases e:r'=r
  ·subst e
   rw [if_pos (by omega),if_pos rfl,if_pos rfl,if_pos rfl];omega
  ·rw [if_neg (by omega),if_neg e,if_neg e,if_neg e];omega
theorem BL.ps (h:BL p s m0 m1 m a b fr R x cut):Ps p s x:=by
 have hb:=hp.b
 refine⟨by rw [h.xe];exact aV _ _,by rw [h.xe];exact aV _ _,by rw [h.xe];exact aV _ _,fun k hk=> ?_,fun k hk=> ?_,fun r hr=> ?_,fun v hv=> ?_⟩
 ·have hw:=(hp.src k hk).power
  rw [h.xS hp hs hk]
  by_cases hf:bB p s k=true
  ·have:=h.pair (h.src k hk hf) (h.j1 hk hf)
   rw [if_pos hf];unfold dl
   exact⟨by omega,by omega,fun q=>by rw [hf]at q;cases q⟩
  ·rw [if_neg hf];exact⟨by omega,by omega,fun _=>rfl⟩
 ·have hw:=(hp.lnk k hk).most
  rw [h.xL hp hs hk]
  by_cases hf:aN p s k=true
  ·have:=h.pair (h.lnk k hk hf) (h.j2 hk hf)
   rw [if_pos hf];unfold dl
   exact⟨by omega,by omega,fun q=>by rw [hf]at q;cases q⟩
  ·rw [if_neg hf];exact⟨by omega,by omega,fun _=>rfl⟩
 ·have hw:=(hp.rck r hr).power
  obtain⟨q0,q1,q2⟩:=h.rck r hr
  have p0:=h.pair q0 (h.j3 hr)
  have x0:=h.xR hp hs hr
  have x1:=h.aaG hp hs hr
  have b0:0≤(at' x.racks r).e0:=by
   rw [x0.1]
   by_cases hf:iJ s (at' p.racks r).feeds.e0=true
   ·have:=h.pair (q1 hf) (h.j4 hr false (by simpa using hf))
    rw [if_pos hf];unfold dl;omega
   ·rw [if_neg hf];omega
  have b1:0≤(at' x.racks r).e1:=by
   rw [x0.2]
   by_cases hf:iJ s (at' p.racks r).feeds.e1=true
   ·have:=h.pair (q2 hf) (h.j4 hr true (by simpa using hf))
    rw [if_pos hf];unfold dl;omega
   ·rw [if_neg hf];omega
  refine⟨b0,b1,by rw [x1];unfold dl;omega,fun q=> ?_,fun q=> ?_⟩
  ·rw [x0.1,q];rfl
  ·rw [x0.2,q];rfl
 ·have f:=h.flow (v:=1+v) (by omega) (by omega)
  dsimp only at f
  rw [bR (n:=p.sources.length) (g:=fun k=> - Pp p x v k) fun k hk=> ?_,bR (n:=p.links.length) (g:=fun k=> - Ku p x v k) fun k hk=> ?_,bR (n:=p.racks.length) (g:=fun r=>JV p x v r) fun r hr=> ?_,EN,EN]at f
  ·unfold LW;show _+_ - aU _ (fun r=>JV p x v r)=0;omega
  ·obtain⟨q0,q1,q2⟩:=h.rck r hr
   have ha:=(hp.rck r hr).e0;have hbb:=(hp.rck r hr).e1
   have p0:=h.pair q0 (h.j3 hr)
   have x0:=h.xR hp hs hr
   unfold JV
   rw [if_neg (show ¬ tgt a (2*(m1+sJ p s r)+1)=1+v by omega),if_neg (show ¬ tgt a (2*(m1+sJ p s r))=1+v by omega)]
   have c1:(if iJ s (at' p.racks r).feeds.e0=true then(if tgt a (2*mY p s m1 r false+1)=1+v then dl a b (mY p s m1 r false)else 0) - (if tgt a (2*mY p s m1 r false)=1+v then dl a b (mY p s m1 r false)else 0)else 0)=if(at' p.racks r).feeds.e0=(v:Int)then(at' x.racks r).e0 else 0:=by
    by_cases hf:iJ s (at' p.racks r).feeds.e0=true
    ·have p1:=h.pair (q1 hf) (h.j4 hr false (by simpa using hf))
     rw [if_pos hf,x0.1,if_pos hf,if_neg (show ¬ tgt a (2*mY p s m1 r false)=1+v by omega)]
     by_cases e:(at' p.racks r).feeds.e0=(v:Int)
     ·rw [if_pos (by omega),if_pos e];omega
     ·rw [if_neg (by omega),if_neg e];omega
    ·rw [if_neg hf,x0.1,if_neg hf];split<;>rfl
   have c2:(if iJ s (at' p.racks r).feeds.e1=true then(if tgt a (2*mY p s m1 r true+1)=1+v then dl a b (mY p s m1 r true)else 0) - (if tgt a (2*mY p s m1 r true)=1+v then dl a b (mY p s m1 r true)else 0)else 0)=if(at' p.racks r).feeds.e1=(v:Int)then(at' x.racks r).e1 else 0:=by
    by_cases hf:iJ s (at' p.racks r).feeds.e1=true
    ·have p1:=h.pair (q2 hf) (h.j4 hr true (by simpa using hf))
     have hf0:0≤(at' p.racks r).feeds.e1:=by unfold iJ at hf;rw [Bool.and_eq_true,decide_eq_true_eq]at hf;exact hf.1
     rw [if_pos hf,x0.2,if_pos hf,if_neg (show ¬ tgt a (2*mY p s m1 r true)=1+v by omega)]
     by_cases e:(at' p.racks r).feeds.e1=(v:Int)
     ·rw [if_pos (by omega),if_pos e];omega
     ·rw [if_neg (by omega),if_neg e];omega
    ·rw [if_neg hf,x0.2,if_neg hf];split<;>rfl
   rw [c1,c2];omega
  ·have ha:=(hp.lnk k hk).a;have hbb:=(hp.lnk k hk).b;have hne:=(hp.lnk k hk).ab
   unfold Ku
   rw [h.xL hp hs hk]
   by_cases hf:aN p s k=true
   ·have:=h.pair (h.lnk k hk hf) (h.j2 hk hf)
    rw [if_pos hf,if_pos hf]
    by_cases e1:(at' p.links k).a=(v:Int)
    ·rw [if_pos (by omega),if_neg (by omega),if_neg (by omega),if_pos e1];omega
    ·rw [if_neg (by omega),if_neg (show ¬ (at' p.links k).a=(v:Int)from e1)]
     by_cases e2:(at' p.links k).b=(v:Int)
     ·rw [if_pos (by omega),if_pos e2];omega
     ·rw [if_neg (by omega),if_neg e2];omega
   ·rw [if_neg hf,if_neg hf];simp
  ·have hbus:=(hp.src k hk).bus
   unfold Pp
   rw [h.xS hp hs hk]
   by_cases hf:bB p s k=true
   ·have:=h.pair (h.src k hk hf) (h.j1 hk hf)
    rw [if_pos hf,if_pos hf,if_neg (show ¬ tgt a (2*lD (bB p s) k+1)=1+v by omega)]
    by_cases e1:(at' p.sources k).bus=(v:Int)
    ·rw [if_pos (by omega),if_pos e1];omega
    ·rw [if_neg (by omega),if_neg e1];omega
   ·rw [if_neg hf,if_neg hf];simp
end
section
variable {p:ah} {s:State} {m0 m1 m:Nat} {a b:List bg} {fr:List (List Int)} {R:Nat→Prop} {x:aA} {cut:List Bool} (hp:VP p) (hs:VS p s) (h:BL p s m0 m1 m a b fr R x cut)
include hp hs h
theorem BL.go (K:Nat→Prop)
  (hS: ∀k,k<p.sources.length→bB p s k=true→(K 0→at' x.sources k<(at' p.sources k).power→K (1+(at' p.sources k).bus.toNat))∧(K (1+(at' p.sources k).bus.toNat)→0<at' x.sources k→K 0))
  (hL: ∀k,k<p.links.length→aN p s k=true→(K (1+(at' p.links k).a.toNat)→at' x.links k<(at' p.links k).most→K (1+(at' p.links k).b.toNat))∧(K (1+(at' p.links k).b.toNat)→ -(at' p.links k).most<at' x.links k→K (1+(at' p.links k).a.toNat)))
  (hR: ∀r,r<p.racks.length→(K (1+p.buses.toNat+r)→(at' x.racks r).e0+(at' x.racks r).e1<(at' p.racks r).power→K (1+p.buses.toNat+p.racks.length))∧(K (1+p.buses.toNat+p.racks.length)→K (1+p.buses.toNat+r))∧
   (iJ s (at' p.racks r).feeds.e0=true→(K (1+(at' p.racks r).feeds.e0.toNat)→(at' x.racks r).e0<(at' p.racks r).power→K (1+p.buses.toNat+r))∧(K (1+p.buses.toNat+r)→0<(at' x.racks r).e0→K (1+(at' p.racks r).feeds.e0.toNat)))∧
   (iJ s (at' p.racks r).feeds.e1=true→(K (1+(at' p.racks r).feeds.e1.toNat)→(at' x.racks r).e1<(at' p.racks r).power→K (1+p.buses.toNat+r))∧(K (1+p.buses.toNat+r)→0<(at' x.racks r).e1→K (1+(at' p.racks r).feeds.e1.toNat)))):Xo m b K:=by
 intro i hi hl hK
 obtain⟨j,hj⟩: ∃j,i=2*j∨i=2*j+1:=⟨i / 2,by omega⟩
 have hjm:j<m:=by omega
 rcases h.kinds hjm with⟨k,hk,hf,rfl⟩|⟨k,hk,hf,rfl⟩|⟨r,hr,hc⟩
 ·have q:=h.pair (h.src k hk hf) hjm
  have xe:=h.xS hp hs hk
  rw [if_pos hf]at xe
  unfold dl at xe
  rcases hj with rfl|rfl
  ·rw [mG,q.2.2.2.1]at hK
   rw [q.2.2.1]
   exact(hS k hk hf).1 hK (by omega)
  ·rw [AQ,q.2.2.1]at hK
   rw [q.2.2.2.1]
   exact(hS k hk hf).2 hK (by omega)
 ·have q:=h.pair (h.lnk k hk hf) hjm
  have xe:=h.xL hp hs hk
  rw [if_pos hf]at xe
  unfold dl at xe
  rcases hj with rfl|rfl
  ·rw [mG,q.2.2.2.1]at hK
   rw [q.2.2.1]
   exact(hL k hk hf).1 hK (by omega)
  ·rw [AQ,q.2.2.1]at hK
   rw [q.2.2.2.1]
   exact(hL k hk hf).2 hK (by omega)
 ·obtain⟨q0,q1,q2⟩:=h.rck r hr
  obtain⟨x0,x1⟩:=h.xR hp hs hr
  have xr:=h.aaG hp hs hr
  obtain⟨g1,g2,g3,g4⟩:=hR r hr
  rcases hc with rfl|⟨hf,rfl⟩|⟨hf,rfl⟩
  ·have q:=h.pair q0 hjm
   unfold dl at xr
   rcases hj with rfl|rfl
   ·rw [mG,q.2.2.2.1]at hK
    rw [q.2.2.1]
    exact g1 hK (by omega)
   ·rw [AQ,q.2.2.1]at hK
    rw [q.2.2.2.1]
    exact g2 hK
  ·have q:=h.pair (q1 hf) hjm
   rw [if_pos hf]at x0
   unfold dl at x0
   rcases hj with rfl|rfl
   ·rw [mG,q.2.2.2.1]at hK
    rw [q.2.2.1]
    exact(g3 hf).1 hK (by omega)
   ·rw [AQ,q.2.2.1]at hK
    rw [q.2.2.2.1]
    exact(g3 hf).2 hK (by omega)
  ·have q:=h.pair (q2 hf) hjm
   rw [if_pos hf]at x1
   unfold dl at x1
   rcases hj with rfl|rfl
   ·rw [mG,q.2.2.2.1]at hK
    rw [q.2.2.1]
    exact(g4 hf).1 hK (by omega)
   ·rw [AQ,q.2.2.1]at hK
    rw [q.2.2.2.1]
    exact(g4 hf).2 hK (by omega)
theorem Qp {k:Nat} (hf:bB p s k=true):at' s.badBus (at' p.sources k).bus.toNat=false:=by
 unfold bB at hf;simp only [Bool.and_eq_true,Bool.not_eq_true']at hf;exact hf.2
theorem Iq {k:Nat} (hf:aN p s k=true):at' s.badBus (at' p.links k).a.toNat=false∧at' s.badBus (at' p.links k).b.toNat=false:=by
 unfold aN at hf;simp only [Bool.and_eq_true,Bool.not_eq_true']at hf;exact⟨hf.1.2,hf.2⟩
theorem DW {v:Int} (hf:iJ s v=true):0≤v∧at' s.badBus v.toNat=false:=by
 unfold iJ at hf;simp only [Bool.and_eq_true,Bool.not_eq_true',decide_eq_true_eq]at hf;exact hf
theorem BL.right:Ky p s (at' cut):=by
 have hb:=hp.b
 intro v hv hc
 have hR:=(h.ct v hv).1 hc
 have key:=h.mn (fun w=> ∀u:Nat,(u:Int)<p.buses→w=1+u→at' s.badBus u=false) ?_ (fun u _ e=>by omega) _ hR v hv (by omega)
 ·exact key
 ·refine h.go hp hs _ (fun k hk hf=> ⟨fun _ _ u hu e=> ?_,fun _ _ u hu e=>by omega⟩) (fun k hk hf=> ⟨fun _ _ u hu e=> ?_,fun _ _ u hu e=> ?_⟩) (fun r hr=> ⟨fun _ _ u hu e=>by omega,fun _ u hu e=>by omega,fun hf=> ⟨fun _ _ u hu e=>by omega,fun _ _ u hu e=> ?_⟩,fun hf=> ⟨fun _ _ u hu e=>by omega,fun _ _ u hu e=> ?_⟩⟩)
  ·have:=Qp hp hs h hf
   have e2:u=(at' p.sources k).bus.toNat:=by omega
   rw [e2];exact this
  ·have e2:u=(at' p.links k).b.toNat:=by omega
   rw [e2];exact(Iq hp hs h hf).2
  ·have e2:u=(at' p.links k).a.toNat:=by omega
   rw [e2];exact(Iq hp hs h hf).1
  ·have e2:u=(at' p.racks r).feeds.e0.toNat:=by omega
   rw [e2];exact(DW hp hs h hf).2
  ·have e2:u=(at' p.racks r).feeds.e1.toNat:=by omega
   rw [e2];exact(DW hp hs h hf).2
theorem BL.aeW {k:Nat} (hk:k<p.sources.length) (hf:bB p s k=true) (hc:at' cut (at' p.sources k).bus.toNat=false):at' x.sources k=(at' p.sources k).power:=by
 have hbus:=(hp.src k hk).bus
 have hj:=h.j1 hk hf
 have q:=h.pair (h.src k hk hf) hj
 have xe:=h.xS hp hs hk
 rw [if_pos hf]at xe
 unfold dl at xe
 refine Decidable.byContradiction fun hn=> ?_
 have:=h.clo (2*lD (bB p s) k) (by omega) (by omega) (by rw [mG,q.2.2.2.1];exact h.r0)
 rw [q.2.2.1,Nat.add_comm,←h.ct _ (by omega),hc]at this
 cases this
theorem BL.acW {k:Nat} (hk:k<p.links.length) (hf:aN p s k=true):(at' cut (at' p.links k).a.toNat=true→at' cut (at' p.links k).b.toNat=false→at' x.links k=(at' p.links k).most)∧(at' cut (at' p.links k).b.toNat=true→at' cut (at' p.links k).a.toNat=false→at' x.links k= -(at' p.links k).most):=by
 have hl:=hp.lnk k hk;have ha:=hl.a;have hb:=hl.b
 have hj:=h.j2 hk hf
 have q:=h.pair (h.lnk k hk hf) hj
 have xe:=h.xL hp hs hk
 rw [if_pos hf]at xe
 unfold dl at xe
 refine⟨fun c1 c2=>Decidable.byContradiction fun hn=> ?_,fun c1 c2=>Decidable.byContradiction fun hn=> ?_⟩
 ·have:=h.clo (2*(m0+lD (aN p s) k)) (by omega) (by omega) (by rw [mG,q.2.2.2.1,Nat.add_comm];exact(h.ct _ (by omega)).1 c1)
  rw [q.2.2.1,Nat.add_comm,←h.ct _ (by omega),c2]at this
  cases this
 ·have:=h.clo (2*(m0+lD (aN p s) k)+1) (by omega) (by omega) (by rw [AQ,q.2.2.1,Nat.add_comm];exact(h.ct _ (by omega)).1 c1)
  rw [q.2.2.2.1,Nat.add_comm,←h.ct _ (by omega),c2]at this
  cases this
theorem BL.tight:(∀k,k<p.sources.length→Xh p x (at' cut) k=JU p s (at' cut) k)∧(∀i,i<p.links.length→TY p x (at' cut) i=JS p s (at' cut) i)∧ ∀r,r<p.racks.length→PY p x (at' cut) r=Kk p (at' cut) r:=by
 have hps:=h.ps hp hs
 have hrt:=h.right hp hs
 refine⟨fun k hk=> ?_,fun i hi=> ?_,fun r hr=> ?_⟩
 ·unfold Xh JU
  cases hc:at' cut (at' p.sources k).bus.toNat with
  |true=>simp
  |false=>
   cases hf:bB p s k with
   |true=>simp;exact h.aeW hp hs hk hf hc
   |false=>simp;exact(hps.sS k hk).2.2 hf
 ·unfold TY JS
  cases hf:aN p s i with
  |false=>rw [(hps.sL i hi).2.2 hf];simp
  |true=>
   obtain⟨g1,g2⟩:=h.acW hp hs hi hf
   cases ca:at' cut (at' p.links i).a.toNat<;>cases cb:at' cut (at' p.links i).b.toNat<;>simp
   ·have:=g2 cb ca;omega
   ·exact g1 ca cb
 ·have hv:=hp.rck r hr;have ha:=hv.e0;have hb:=hv.e1;have hw:=hv.power
  obtain⟨w1,w2,w3,w4,w5⟩:=hps.sR r hr
  obtain⟨q0,q1,q2⟩:=h.rck r hr
  obtain⟨x0,x1⟩:=h.xR hp hs hr
  have xr:=h.aaG hp hs hr
  unfold dl at xr
  have pr:=h.pair q0 (h.j3 hr)
  have hjr:=h.j3 hr
  unfold PY Kk Rv
  have full:R (1+p.buses.toNat+r)→(at' x.racks r).e0+(at' x.racks r).e1=(at' p.racks r).power:=fun hR=>Decidable.byContradiction fun hn=>by
   have:=h.clo (2*(m1+sJ p s r)) (by omega) (by omega) (by rw [mG,pr.2.2.2.1];exact hR)
   rw [pr.2.2.1]at this
   exact h.rs this
  have f0:at' cut (at' p.racks r).feeds.e0.toNat=true→iJ s (at' p.racks r).feeds.e0=true:=fun hc=>Zl hp hs hrt ha hc
  have f1:0≤(at' p.racks r).feeds.e1→at' cut (at' p.racks r).feeds.e1.toNat=true→iJ s (at' p.racks r).feeds.e1=true:=fun h0 hc=>Zl hp hs hrt ⟨h0,hb.2⟩ hc
  have in0:at' cut (at' p.racks r).feeds.e0.toNat=true→(at' x.racks r).e0=(at' p.racks r).power∨R (1+p.buses.toNat+r):=fun hc=>by
   have hf:=f0 hc
   have hj:=h.j4 hr false (by simpa using hf)
   have q:=h.pair (q1 hf) hj
   rw [if_pos hf]at x0
   unfold dl at x0
   by_cases hn:(at' x.racks r).e0=(at' p.racks r).power
   ·exact .inl hn
   ·have:=h.clo (2*mY p s m1 r false) (by omega) (by omega) (by rw [mG,q.2.2.2.1,Nat.add_comm];exact(h.ct _ (by omega)).1 hc)
    rw [q.2.2.1]at this
    exact .inr this
  have in1:0≤(at' p.racks r).feeds.e1→at' cut (at' p.racks r).feeds.e1.toNat=true→(at' x.racks r).e1=(at' p.racks r).power∨R (1+p.buses.toNat+r):=fun h0 hc=>by
   have hf:=f1 h0 hc
   have hj:=h.j4 hr true (by simpa using hf)
   have q:=h.pair (q2 hf) hj
   rw [if_pos hf]at x1
   unfold dl at x1
   by_cases hn:(at' x.racks r).e1=(at' p.racks r).power
   ·exact .inl hn
   ·have:=h.clo (2*mY p s m1 r true) (by omega) (by omega) (by rw [mG,q.2.2.2.1,Nat.add_comm];exact(h.ct _ (by omega)).1 hc)
    rw [q.2.2.1]at this
    exact .inr this
  have out0:R (1+p.buses.toNat+r)→at' cut (at' p.racks r).feeds.e0.toNat=false→(at' x.racks r).e0=0:=fun hR hc=>by
   cases hf:iJ s (at' p.racks r).feeds.e0 with
   |false=>exact w4 hf
   |true=>
    have hj:=h.j4 hr false (by simpa using hf)
    have q:=h.pair (q1 hf) hj
    rw [if_pos hf]at x0
    unfold dl at x0
    refine Decidable.byContradiction fun hn=> ?_
    have:=h.clo (2*mY p s m1 r false+1) (by omega) (by omega) (by rw [AQ,q.2.2.1];exact hR)
    rw [q.2.2.2.1,Nat.add_comm,←h.ct _ (by omega),hc]at this
    cases this
  have out1:R (1+p.buses.toNat+r)→(0≤(at' p.racks r).feeds.e1→at' cut (at' p.racks r).feeds.e1.toNat=false)→(at' x.racks r).e1=0:=fun hR hc=>by
   cases hf:iJ s (at' p.racks r).feeds.e1 with
   |false=>exact w5 hf
   |true=>
    have h0:=(DW hp hs h hf).1
    have hj:=h.j4 hr true (by simpa using hf)
    have q:=h.pair (q2 hf) hj
    rw [if_pos hf]at x1
    unfold dl at x1
    refine Decidable.byContradiction fun hn=> ?_
    have:=h.clo (2*mY p s m1 r true+1) (by omega) (by omega) (by rw [AQ,q.2.2.1];exact hR)
    rw [q.2.2.2.1,Nat.add_comm,←h.ct _ (by omega),hc h0]at this
    cases this
  by_cases h0:0≤(at' p.racks r).feeds.e1
  ·cases c0:at' cut (at' p.racks r).feeds.e0.toNat<;>cases c1:at' cut (at' p.racks r).feeds.e1.toNat<;>simp [h0]
   ·rcases in1 h0 c1 with e|e
    ·exact e
    ·have:=full e;have:=out0 e c0;omega
   ·rcases in0 c0 with e|e
    ·exact e
    ·have:=full e;have:=out1 e (fun _=>c1);omega
   ·rcases in0 c0 with e|e
    ·rcases in1 h0 c1 with e'|e'
     ·omega
     ·exact full e'
    ·exact full e
  ·cases c0:at' cut (at' p.racks r).feeds.e0.toNat<;>simp [h0]
   rcases in0 c0 with e|e
   ·exact e
   ·have:=full e;have:=out1 e (fun q=>absurd q h0);omega
theorem BL.agp:PL p x=oV p s (at' cut):=by
 obtain⟨h1,h2,h3⟩:=h.tight hp hs
 exact Mj hp hs (h.ps hp hs) h1 h2 h3
theorem BL.least {D:Nat→Bool} (hD:Ky p s D) (e:PL p x=oV p s D) {v:Nat} (hv:(v:Int)<p.buses) (hc:at' cut v=true):D v=true:=by
 have hb:=hp.b
 have hps:=h.ps hp hs
 obtain⟨t1,t2,t3⟩:=Uk hp hs hps hD e
 have hR:=(h.ct v hv).1 hc
 have key:=h.mn (fun w=>(∀u:Nat,(u:Int)<p.buses→w=1+u→D u=true)∧(∀r,r<p.racks.length→w=1+p.buses.toNat+r→Rv p D r=true)∧w≠1+p.buses.toNat+p.racks.length) ?_ ⟨fun u _ e=>by omega,fun u _ e=>by omega,by omega⟩ _ hR
 ·exact key.1 v hv (by omega)
 ·refine h.go hp hs _ (fun k hk hf=> ?_) (fun k hk hf=> ?_) (fun r hr=> ?_)
  ·have hbus:=(hp.src k hk).bus
   refine⟨fun _ hl=> ⟨fun u hu e=> ?_,fun r hr e=>by omega,by omega⟩,fun _ _=> ⟨fun u _ e=>by omega,fun u _ e=>by omega,by omega⟩⟩
   have e2:u=(at' p.sources k).bus.toNat:=by omega
   have t:=t1 k hk
   unfold Xh JU at t
   rw [e2]
   cases hc:D (at' p.sources k).bus.toNat with
   |true=>rfl
   |false=>rw [hc,hf]at t;simp at t;omega
  ·have ha:=(hp.lnk k hk).a;have hbb:=(hp.lnk k hk).b
   have t:=t2 k hk
   unfold TY JS at t
   refine⟨fun hK hl=> ⟨fun u hu e=> ?_,fun r hr e=>by omega,by omega⟩,fun hK hl=> ⟨fun u hu e=> ?_,fun r hr e=>by omega,by omega⟩⟩
   ·have e2:u=(at' p.links k).b.toNat:=by omega
    have hA:=hK.1 (at' p.links k).a.toNat (by omega) rfl
    rw [e2]
    cases hc:D (at' p.links k).b.toNat with
    |true=>rfl
    |false=>rw [hc,hf,hA]at t;simp at t;omega
   ·have e2:u=(at' p.links k).a.toNat:=by omega
    have hB:=hK.1 (at' p.links k).b.toNat (by omega) rfl
    rw [e2]
    cases hc:D (at' p.links k).a.toNat with
    |true=>rfl
    |false=>rw [hc,hf,hB]at t;simp at t;omega
  ·have hv:=hp.rck r hr;have ha:=hv.e0;have hbb:=hv.e1;have hw:=hv.power
   have t:=t3 r hr
   obtain⟨w1,w2,w3,w4,w5⟩:=hps.sR r hr
   refine⟨fun hK hl=> ?_,fun hK=>absurd rfl hK.2.2,fun hf=> ⟨fun hK hl=> ⟨fun u hu e=>by omega,fun r' hr' e=> ?_,by omega⟩,fun hK hl=> ⟨fun u hu e=> ?_,fun r' hr' e=>by omega,by omega⟩⟩,fun hf=> ?_⟩
   ·have hC:=hK.2.1 r hr rfl
    unfold PY Kk at t
    rw [hC,if_pos rfl]at t
    exfalso
    revert t
    split<;>split<;>omega
   ·have e2:r'=r:=by omega
    rw [e2]
    unfold Rv
    rw [hK.1 (at' p.racks r).feeds.e0.toNat (by omega) rfl];rfl
   ·have hC:=hK.2.1 r hr rfl
    have e2:u=(at' p.racks r).feeds.e0.toNat:=by omega
    unfold PY Kk at t
    rw [hC,if_pos rfl]at t
    rw [e2]
    cases hc:D (at' p.racks r).feeds.e0.toNat with
    |true=>rfl
    |false=>
     exfalso
     rw [hc,if_neg (by simp)]at t
     revert t
     split<;>omega
   ·have h0:=(DW hp hs h hf).1
    refine⟨fun hK hl=> ⟨fun u hu e=>by omega,fun r' hr' e=> ?_,by omega⟩,fun hK hl=> ⟨fun u hu e=> ?_,fun r' hr' e=>by omega,by omega⟩⟩
    ·have e2:r'=r:=by omega
     rw [e2]
     unfold Rv
     rw [hK.1 (at' p.racks r).feeds.e1.toNat (by omega) rfl,decide_eq_true h0];simp
    ·have hC:=hK.2.1 r hr rfl
     have e2:u=(at' p.racks r).feeds.e1.toNat:=by omega
     unfold PY Kk at t
     rw [hC,if_pos rfl]at t
     rw [e2]
     cases hc:D (at' p.racks r).feeds.e1.toNat with
     |true=>rfl
     |false=>
      exfalso
      rw [hc,if_neg (by simp: ¬ (0≤(at' p.racks r).feeds.e1∧(false:Bool)=true))]at t
      revert t
      split<;>omega
end
structure Sv (p:ah) (s:State) (x:aA) (cut:List Bool):Prop where
 ps:Ps p s x
 cl:cut.length=p.buses.toNat
 rt:Ky p s (at' cut)
 eq:PL p x=oV p s (at' cut)
 least: ∀D,Ky p s D→PL p x=oV p s D→ ∀v:Nat,(v:Int)<p.buses→at' cut v=true→D v=true
theorem OV {p:ah} {s:State} (hp:VP p) (hs:VS p s): ∃x cut,bN p s=some (x,cut,0)∧Sv p s x cut:=by
 obtain⟨m0,m1,m,a,b,fr,R,x,cut,e,h⟩:=Sq hp hs
 exact⟨x,cut,e,h.ps hp hs,h.cl,h.right hp hs,h.agp hp hs,fun D hD e v hv hc=>h.least hp hs hD e hv hc⟩
theorem TL {p:ah} {s:State} (hsm:Small p) (h:iB p s≠0):bN p s=some (⟨[],[],[]⟩,[],iB p s):=by
 unfold bN
 rw [jX p s hsm,Option.bind_some,decide_eq_false h];rfl
theorem Yc:fE=some true:=by kernel_rfl
section
variable {p:ah} {s:State} (hp:VP p) (hs:VS p s)
include hp hs
theorem Ps.amount {x:aA} (h:Ps p s x):ic x=some (PL p x):=by
 have hrl:=hp.rl
 rw [Fu (by rw [h.l3];omega),Rl (fun r hr=> ?_) (by rw [h.l3];omega) _ (Nat.le_refl _),h.l3]
 ·rfl
 ·rw [h.l3]at hr
  have:=h.sR r hr
  have:=(hp.rck r hr).power
  omega
theorem Ps.Jy {x:aA} (h:Ps p s x):Jy x x.racks.length=PL p x:=by
 have hrl:=hp.rl
 have h1:=h.amount hp hs
 rw [Fu (by rw [h.l3];omega)]at h1
 exact Option.some.inj h1
theorem Qj {cut:List Bool} (hl:cut.length=p.buses.toNat) (hr:Ky p s (at' cut)):FH p s cut=(oV p s (at' cut),0):=by
 have hb:=hp.b
 unfold FH
 rw [if_pos (eD.mpr ⟨hp,hs⟩),if_pos (by omega),if_neg]
 rw [List.any_eq_true]
 rintro ⟨b,hb2,hc⟩
 rw [Bool.and_eq_true]at hc
 have:=List.mem_range.1 hb2
 have:=hr b (by omega) hc.1
 rw [hc.2]at this;cases this
theorem Sv.cert {x:aA} {cut:List Bool} (h:Sv p s x cut):ni p s x cut=some 0:=by
 have hrl:=hp.rl
 rw [Jr hp.small s x (by rw [h.ps.l3];omega)]
 unfold NY Cj
 rw [if_pos (eD.mpr ⟨hp,hs⟩),if_pos (h.ps.afq hp hs),if_pos rfl,Qj hp hs h.cl h.rt,if_pos rfl,h.ps.Jy hp hs,h.eq,if_pos rfl]
end
theorem Bq {α:Type} [Inhabited α] {ρ:Type} {body:Int→Option (aM Int (Ex Unit ρ))} (l:List α) (hl:l.length≤9223372036854775807) (hb: ∀t:Nat,t<l.length→body (t:Int)=some (.next ((t:Int)+1))) (he:body (l.length:Int)=some (.done (.brk ()))):ay body FUEL 0=some (.brk ()):=
 aY (fun t=>(t:Int)) l.length _ (fuel_lt hl) (fun t ht=>by rw [hb t ht];rfl) he
theorem je (a b:List Bool) (ha:a.length≤9223372036854775807):bS a b=some (decide (a=b)):=by
 unfold bS
 by_cases hl:a.length=b.length
 ·have h1:decide ((a.length:Int)=(b.length:Int))=true:=decide_eq_true (by omega)
  rw [h1]
  simp only [Bool.not_true,cond_false]
  have key:ay (kF a b) FUEL 0=some (match(List.range a.length).find? (fun i=> !(at' a i==at' b i))with|some _=> .ret false|none=> .brk ()):=by
   refine iw a.length (fun i=> !(at' a i==at' b i)) (fun _=>false) ha (fun i hi=> ?_) ?_
   ·unfold kF
    have h1:decide ((i:Int)<(a.length:Int))=true:=decide_eq_true (by omega)
    rw [h1,cond_true,ai (by omega),Int.toNat_natCast,wr (by omega)]
    exact Az _ _ _
   ·unfold kF;simp
  rw [key]
  cases hf:(List.range a.length).find? (fun i=> !(at' a i==at' b i))with
  |none=>
   rw [List.find?_eq_none]at hf
   have:a=b:=Dm hl fun i hi=>by
    have:=hf i (List.mem_range.mpr hi);simpa using this
   simp [this]
  |some k=>
   have hk:=List.mem_of_find?_eq_some hf
   have hp:=List.find?_some hf
   have:a≠b:=by intro e;subst e;simp at hp
   simp [this]
 ·have h1:decide ((a.length:Int)=(b.length:Int))=false:=decide_eq_false (by omega)
  have h2:a≠b:=fun e=>hl (by rw [e])
  rw [h1];simp [h2]
structure RG (s:State):Prop where
 l0:s.closed.length≤140737488351232
 l1:s.locked.length≤140737488351232
 l2:s.badLink.length≤140737488351232
 l3:s.on_.length≤140737488351232
 l4:s.badSource.length≤140737488351232
 l5:s.earthed.length≤140737488351232
 l6:s.badBus.length≤140737488351232
theorem iI (l:List Bool) (h:l.length≤140737488351232):dL l=some l:=by
 unfold dL;rw [ai (by omega)]
theorem Im (s:State) (h:RG s):pY s=some s:=by
 obtain⟨h0,h1,h2,h3,h4,h5,h6⟩:=h
 unfold pY
 rw [iI _ h0,iI _ h1,iI _ h2,iI _ h3,iI _ h4,iI _ h5,iI _ h6]
 rfl
theorem Iu (a:State) (h:RG a):qb a a=some true:=by
 obtain⟨h0,h1,h2,h3,h4,h5,h6⟩:=h
 unfold qb
 rw [je _ _ (by omega),je _ _ (by omega),je _ _ (by omega),je _ _ (by omega),je _ _ (by omega),je _ _ (by omega),je _ _ (by omega)]
 simp [gB]
theorem Ka (x:Link) (h:x.trip.length≤8796093021952):rV x=some x:=by
 unfold rV uK
 rw [ai (by omega)];rfl
theorem Iy (p:ah) (h1:p.sources.length≤60) (h2:p.links.length≤60) (h3:p.racks.length≤60) (h4: ∀x∈p.links,x.trip.length≤8796093021952):p8 p=some p:=by
 have key:ay (gU p.links) FUEL (p.links.take 0,((0:Nat):Int))=some (.brk (p.links.take p.links.length)):=by
  refine aY (body:=gU p.links) (fun t=>(p.links.take t,(t:Int))) p.links.length _ (fuel_lt (by omega)) (fun t ht=> ?_) ?_
  ·unfold gU
   have d1:decide ((t:Int)<(p.links.length:Int))=true:=decide_eq_true (by omega)
   simp only [d1,cond_true,Int.toNat_natCast]
   have:=h4 _ (at_mem ht)
   rw [Ka _ (by omega),Option.bind_some,ai ⟨by omega,by rw [List.length_take,List.length_singleton];omega,by rw [List.length_take,List.length_singleton];omega⟩,wr (by omega),iY ht]
   rfl
  ·unfold gU
   have d1:decide ((p.links.length:Int)<(p.links.length:Int))=false:=decide_eq_false (by omega)
   simp only [d1,cond_false]
 have key':ay (gU p.links) FUEL ([],0)=_:=key
 unfold p8 qW uH uN
 rw [ai (by omega),key',ai (by omega),List.take_length]
 rfl
theorem II (l:List gD) (h:l.length≤8796093021952):pR l l=some true:=by
 unfold pR
 rw [Bq (body:=kX l l) l (by omega) (fun t ht=> ?_) (by unfold kX;simp)]
 ·simp
 ·unfold kX
  rw [decide_eq_true (show(t:Int)<(l.length:Int) by omega),cond_true,ai ⟨by omega,by omega⟩,wr (by omega)]
  simp
theorem F4 (l:List Source) (h:l.length≤1000):mI l l=some true:=by
 unfold mI
 rw [Bq (body:=jR l l) l (by omega) (fun t ht=> ?_) (by unfold jR;simp)]
 ·simp
 ·unfold jR
  rw [decide_eq_true (show(t:Int)<(l.length:Int) by omega),cond_true,ai ⟨by omega,by omega⟩,wr (by omega)]
  simp
theorem IU (l:List aC) (h:l.length≤1000):qc l l=some true:=by
 unfold qc
 rw [Bq (body:=kZ l l) l (by omega) (fun t ht=> ?_) (by unfold kZ;simp)]
 ·simp
 ·unfold kZ
  rw [decide_eq_true (show(t:Int)<(l.length:Int) by omega),cond_true,ai ⟨by omega,by omega⟩,wr (by omega)]
  simp
theorem J5 (x:Link) (h:x.trip.length≤8796093021952):qZ x x=some true:=by
 unfold qZ
 rw [II _ h];simp [gB]
theorem Je (l:List Link) (h:l.length≤1000) (ht: ∀x∈l,x.trip.length≤8796093021952):pW l l=some true:=by
 unfold pW
 rw [Bq (body:=lC l l) l (by omega) (fun t htl=> ?_) (by unfold lC;simp)]
 ·simp
 ·unfold lC
  rw [decide_eq_true (show(t:Int)<(l.length:Int) by omega),cond_true,Int.toNat_natCast,J5 _ (ht _ (at_mem htl)),Option.bind_some,ai ⟨by omega,by omega⟩,wr (by omega)]
  rfl
theorem Jt (p:ah) (h1:p.sources.length≤60) (h2:p.links.length≤60) (h3:p.racks.length≤60) (h4: ∀x∈p.links,x.trip.length≤8796093021952):pU p p=some true:=by
 unfold pU
 rw [F4 _ (by omega),Je _ (by omega) h4,IU _ (by omega)]
 simp [gB]
theorem xV (l:List Int) (h:l.length≤1000000):jw l l=some true:=by
 have key:ay (mP l l) FUEL 0=some (.brk ()):=by
  refine aY (fun t=>(t:Int)) l.length _ (fuel_lt (by omega)) (fun t ht=> ?_) ?_
  ·unfold mP
   have d1:decide ((t:Int)<(l.length:Int))=true:=decide_eq_true (by omega)
   simp only [d1,cond_true,decide_true,Bool.not_true,cond_false]
   rw [ai ⟨by omega,by omega⟩,wr (by omega)]
   rfl
  ·unfold mP;simp
 unfold jw
 rw [key];simp
theorem G8 (l:List Short) (h:l.length≤1000) (hl: ∀x∈l,x.links.length≤1000000):jA l l=some true:=by
 have key:ay (jG l l) FUEL 0=some (.brk ()):=by
  refine aY (fun t=>(t:Int)) l.length _ (fuel_lt (by omega)) (fun t ht=> ?_) ?_
  ·unfold jG
   have d1:decide ((t:Int)<(l.length:Int))=true:=decide_eq_true (by omega)
   simp only [d1,cond_true,decide_true,Bool.not_true,cond_false,Int.toNat_natCast]
   rw [show gB [(false,false)]=true from rfl,cond_true,xV _ (hl _ (at_mem ht)),Option.bind_some,ai (by refine⟨?_, ?_,fun _=> ?_,fun _=> ?_,fun _=> ?_,fun _=> ?_,fun _=> ?_,fun _=> ?_⟩<;>omega),wr (by omega)]
   rfl
  ·unfold jG;simp
 unfold jA
 rw [key];simp
section
variable (p:ah) (l:List Short) (n:Nat)
theorem Bg (hn:n<l.length) {i:Nat} (hi:i<(at' l n).links.length) (hlen:(at' l n).links.length≤1000000) (hm:0≤at' (at' l n).links i∧at' (at' l n).links i<(p.links.length:Int)):
  gN p l (n:Int) (tab p.links.length (fun k=>((at' l n).links.take i).contains (k:Int)),(i:Int))=some (.next (tab p.links.length (fun k=>((at' l n).links.take (i+1)).contains (k:Int)),((i+1:Nat):Int))):=by
 have hd:decide ((i:Int)<((at' l n).links.length:Int))=true:=decide_eq_true (by omega)
 have d1:decide (at' (at' l n).links i<0)=false:=decide_eq_false (by omega)
 have d2:decide ((p.links.length:Int)≤at' (at' l n).links i)=false:=decide_eq_false (by omega)
 unfold gN
 simp only [Int.toNat_natCast]
 rw [ai (by omega),hd,cond_true,ai ⟨by omega,by omega⟩,d1,d2,cond_false,cond_false,ai (by rw [aV];omega),wr (by omega),tO]
 have:(tab p.links.length fun k=>if k=(at' (at' l n).links i).toNat then true else((at' l n).links.take i).contains (k:Int))=tab p.links.length fun k=>((at' l n).links.take (i+1)).contains (k:Int):=by
  refine bO fun k _=> ?_
  rw [iY hi]
  by_cases e:k=(at' (at' l n).links i).toNat
  ·rw [if_pos e]
   have:(k:Int)=at' (at' l n).links i:=by omega
   simp [this]
  ·rw [if_neg e]
   have: ¬ (k:Int)=at' (at' l n).links i:=by omega
   simp [this]
 rw [this];rfl
theorem EC (hn:n<l.length) (hl:(at' l n).links.length≤1000000):
  ay (gN p l (n:Int)) FUEL (List.replicate p.links.length false,0)=some (if((at' l n).links.any fun i=>decide (i<0)||decide ((p.links.length:Int)≤i))=true then .ret (.done (.ret ([],1)))else .brk (tab p.links.length fun k=>(at' l n).links.contains (k:Int))):=by
 have e:tab p.links.length (fun k=>((at' l n).links.take 0).contains (k:Int))=List.replicate p.links.length false:=by
  rw [BH];exact bO fun k _=>by simp
 rw [←e]
 cases hf:(at' l n).links.findIdx? (fun i=>decide (i<0)||decide ((p.links.length:Int)≤i))with
 |none=>
  rw [List.findIdx?_eq_none_iff]at hf
  have hany:((at' l n).links.any fun i=>decide (i<0)||decide ((p.links.length:Int)≤i))=false:=by rw [List.any_eq_false];intro x hx;simpa using hf x hx
  rw [hany,if_neg (by simp)]
  refine aY (fun i=>(tab p.links.length (fun k=>((at' l n).links.take i).contains (k:Int)),(i:Int))) (at' l n).links.length _ (fuel_lt (by omega)) (fun i hi=> ?_) ?_
  ·have:=hf _ (at_mem hi)
   rw [Bool.or_eq_false_iff,decide_eq_false_iff_not,decide_eq_false_iff_not]at this
   exact Bg p l n hn hi hl ⟨by omega,by omega⟩
  ·have hd:decide (((at' l n).links.length:Int)<((at' l n).links.length:Int))=false:=decide_eq_false (by omega)
   unfold gN
   simp only [Int.toNat_natCast]
   rw [ai (by omega),hd,cond_false,List.take_length]
 |some k=>
  rw [List.findIdx?_eq_some_iff_getElem]at hf
  obtain⟨hk,hb,hpre⟩:=hf
  have hany:((at' l n).links.any fun i=>decide (i<0)||decide ((p.links.length:Int)≤i))=true:=by rw [List.any_eq_true];exact⟨_,List.getElem_mem hk,hb⟩
  rw [hany,if_pos rfl]
  refine aY (fun i=>(tab p.links.length (fun k=>((at' l n).links.take i).contains (k:Int)),(i:Int))) k _ (fuel_lt (by omega)) (fun i hi=> ?_) ?_
  ·have:=hpre i hi
   rw [Bool.not_eq_true,Bool.or_eq_false_iff,decide_eq_false_iff_not,decide_eq_false_iff_not,←dZ (by omega)]at this
   exact Bg p l n hn (by omega) hl ⟨by omega,by omega⟩
  ·have hd:decide ((k:Int)<((at' l n).links.length:Int))=true:=decide_eq_true (by omega)
   rw [←dZ hk]at hb
   unfold gN
   simp only [Int.toNat_natCast]
   rw [ai (by omega),hd,cond_true,ai ⟨by omega,by omega⟩]
   have:(bif (decide (at' (at' l n).links k<0))then true else(decide ((p.links.length:Int)≤at' (at' l n).links k)))=true:=by
    revert hb;cases decide (at' (at' l n).links k<0)<;>simp
   rw [this,cond_true]
end
theorem Yn (l:List Short) (n N:Nat) (hn:n<l.length) (hN:N≤1000) (has:Nat→Bool) (f:Nat→Int) (ha:0≤(at' l n).amps∧(at' l n).amps≤1000000) (hf: ∀k,k<N→0≤f k∧f k≤1000000000):
  ay (jC l (n:Int) (tab N has)) FUEL (tab N f,0)=some (.brk (tab N fun k=>f k+if has k then(at' l n).amps else 0)):=by
 have key:ay (jC l (n:Int) (tab N has)) FUEL (tab N (fun k=>if k<0 then f k+(if has k then(at' l n).amps else 0)else f k),((0:Nat):Int))=some (.brk (tab N fun k=>f k+if has k then(at' l n).amps else 0)):=by
  refine aY (fun i=>(tab N (fun k=>if k<i then f k+(if has k then(at' l n).amps else 0)else f k),(i:Int))) N _ (fuel_lt (by omega)) (fun i hi=> ?_) ?_
  ·have hd:decide ((i:Int)<((tab N (fun k=>if k<i then f k+(if has k then(at' l n).amps else 0)else f k)).length:Int))=true:=by rw [aV];exact decide_eq_true (by omega)
   have hfi:=hf i hi
   unfold jC
   simp only [Int.toNat_natCast]
   rw [hd,cond_true,ai (by rw [aV];omega),jV hi,jV hi,if_neg (Nat.lt_irrefl _),wr (x:=(i:Int)+1) (by omega)]
   cases hh:has i with
   |true=>
    rw [cond_true,ai ⟨by rw [aV];omega,by omega⟩,wr (by omega),tO]
    have:(tab N fun k=>if k=i then f i+(at' l n).amps else if k<i then f k+(if has k then(at' l n).amps else 0)else f k)=tab N fun k=>if k<i+1 then f k+(if has k then(at' l n).amps else 0)else f k:=by
     refine bO fun k hk=> ?_
     by_cases e:k=i
     ·subst e;rw [if_pos rfl,if_pos (show k<k+1 by omega),hh];rfl
     ·rw [if_neg e]
      by_cases e2:k<i
      ·rw [if_pos e2,if_pos (show k<i+1 by omega)]
      ·rw [if_neg e2,if_neg (show ¬ k<i+1 by omega)]
    rw [this];rfl
   |false=>
    rw [cond_false]
    have:(tab N fun k=>if k<i then f k+(if has k then(at' l n).amps else 0)else f k)=tab N fun k=>if k<i+1 then f k+(if has k then(at' l n).amps else 0)else f k:=by
     refine bO fun k hk=> ?_
     by_cases e:k=i
     ·subst e;rw [if_neg (Nat.lt_irrefl _),if_pos (show k<k+1 by omega),hh];simp
     ·by_cases e2:k<i
      ·rw [if_pos e2,if_pos (show k<i+1 by omega)]
      ·rw [if_neg e2,if_neg (show ¬ k<i+1 by omega)]
    rw [this];rfl
  ·have hd:decide ((N:Int)<((tab N (fun k=>if k<N then f k+(if has k then(at' l n).amps else 0)else f k)).length:Int))=false:=by rw [aV];exact decide_eq_false (by omega)
   unfold jC
   simp only
   rw [hd,cond_false]
   have:(tab N fun k=>if k<N then f k+(if has k then(at' l n).amps else 0)else f k)=tab N fun k=>f k+if has k then(at' l n).amps else 0:=bO fun k hk=>if_pos hk
   rw [this]
 have e:(tab N fun k=>if k<0 then f k+(if has k then(at' l n).amps else 0)else f k)=tab N f:=bO fun k _=>if_neg (Nat.not_lt_zero _)
 rw [e]at key
 exact key
theorem Cf {p:ah} {l:List Short} (hp:Small p) (hl: ∀x∈l,x.links.length≤1000000):lZ p l=some ((wJ p l).1,(wJ p l).2.2):=by
 unfold lZ wJ
 rw [xh p hp,Option.bind_some]
 by_cases hc:lq p=0
 ·have hv:=qB.mp hc
  have hll:=hv.ll
  rw [hc]
  simp only [decide_true,Bool.not_true,cond_false,ne_eq,not_true_eq_false,if_false]
  by_cases h8:l.length>8
  ·have:decide (8<(l.length:Int))=true:=by simp;omega
   rw [this,if_pos h8];rfl
  ·have:decide (8<(l.length:Int))=false:=by simp;omega
   rw [this,if_neg h8,cond_false,ai (by omega),Int.toNat_natCast]
   have hstep: ∀t,t<l.length→(∀x∈l.take (t+1),pI p.links.length x=false)→fo p l (tab p.links.length (oN (l.take t)),(t:Int))=some (.next (tab p.links.length (oN (l.take (t+1))),((t+1:Nat):Int))):=by
    intro t ht hgood
    have hb:pI p.links.length (at' l t)=false:=hgood _ (by rw [iY ht];simp)
    have hprev: ∀x∈l.take t,0≤x.amps∧x.amps≤1000000:=by
     intro x hx
     have:=hgood x (by rw [iY ht];exact List.mem_append_left _ hx)
     simp only [pI,Bool.or_eq_false_iff,decide_eq_false_iff_not]at this
     omega
    simp only [pI,Bool.or_eq_false_iff,decide_eq_false_iff_not]at hb
    unfold fo
    have h1:decide ((t:Int)<(l.length:Int))=true:=by simp;omega
    have d1:decide ((at' l t).amps<0)=false:=decide_eq_false (by omega)
    have d2:decide (1000000<(at' l t).amps)=false:=decide_eq_false (by omega)
    simp only [h1,cond_true,Int.toNat_natCast]
    rw [ai ⟨by omega,fun _=>by omega⟩,d1,d2]
    simp only [cond_false]
    rw [ai ⟨by omega,by omega,by omega⟩,EC p l t ht (hl _ (at_mem ht)),if_neg (by simp only [Bool.not_eq_true];rw [List.any_eq_false];intro x hx;have:=hb.2;rw [List.any_eq_false]at this;exact this x hx),Option.bind_some]
    simp only
    rw [Yn l t p.links.length ht (by omega) _ _ ⟨by omega,by omega⟩ (fun k hk=>by have:=L9 (l.take t) k hprev;have:(l.take t).length≤l.length:=(by rw [List.length_take];omega);omega),Option.bind_some]
    simp only
    rw [wr (by omega),iY ht]
    have:(tab p.links.length fun k=>oN (l.take t) k+if(at' l t).links.contains (k:Int)=true then(at' l t).amps else 0)=tab p.links.length (oN (l.take t++[at' l t])):=bO fun i hi=>by rw [Lf]
    rw [this];rfl
   have hinit:(List.replicate p.links.length (0:Int))=tab p.links.length (oN (l.take 0)):=by rw [BH];exact bO fun i hi=>by simp [oN]
   rw [hinit]
   cases hf:l.findIdx? (pI p.links.length)with
   |none=>
    rw [List.findIdx?_eq_none_iff]at hf
    have hany:l.any (pI p.links.length)=false:=by rw [List.any_eq_false];intro x hx;simp [hf x hx]
    have key:ay (fo p l) FUEL (tab p.links.length (oN (l.take 0)),0)=some (.brk (tab p.links.length (oN l))):=by
     refine aY (fun t=>(tab p.links.length (oN (l.take t)),(t:Int))) l.length (.brk (tab p.links.length (oN l))) (fuel_lt (by omega)) (fun t ht=>hstep t ht fun x hx=>hf x (List.mem_of_mem_take hx)) ?_
     unfold fo;simp
    rw [hany,key]
    rfl
   |some k=>
    rw [List.findIdx?_eq_some_iff_getElem]at hf
    obtain⟨hk,hbk,hpre⟩:=hf
    have hany:l.any (pI p.links.length)=true:=by rw [List.any_eq_true];exact⟨_,List.getElem_mem hk,hbk⟩
    have hpre': ∀t,t<k→ ∀x∈l.take (t+1),pI p.links.length x=false:=by
     intro t ht x hx
     obtain⟨j,hj,rfl⟩:=List.mem_iff_getElem.mp hx
     rw [List.length_take]at hj
     have:=hpre j (by omega)
     simp at this;simpa using this
    have key:ay (fo p l) FUEL (tab p.links.length (oN (l.take 0)),0)=some (.ret ([],1)):=by
     refine aY (fun t=>(tab p.links.length (oN (l.take t)),(t:Int))) k (.ret ([],1)) (fuel_lt (by omega)) (fun t ht=>hstep t (by omega) (hpre' t ht)) ?_
     have hb:pI p.links.length (at' l k)=true:=by rw [dZ hk];exact hbk
     unfold fo
     have h1:decide ((k:Int)<(l.length:Int))=true:=by simp;omega
     simp only [h1,cond_true,Int.toNat_natCast]
     rw [ai ⟨by omega,fun _=>by omega⟩,ai (by omega),EC p l k hk (hl _ (at_mem hk))]
     unfold pI at hb
     revert hb
     generalize decide ((at' l k).amps<0)=b1
     generalize decide (1000000<(at' l k).amps)=b2
     generalize ((at' l k).links.any fun i=>decide (i<0)||decide ((p.links.length:Int)≤i))=b3
     cases b1<;>cases b2<;>cases b3<;>intro hb<;>first|rfl|cases hb
    rw [hany,key]
    rfl
 ·have:decide (lq p=0)=false:=by simp [hc]
  rw [this,if_pos hc];rfl
theorem wZ:fE=some true:=by kernel_rfl
theorem TK (x n:Int): ∃k,y8 x n=some k:=by
 unfold y8
 by_cases h:n<1
 ·rw [decide_eq_true h];exact⟨_,rfl⟩
 ·rw [decide_eq_false h,cond_false,ai (by omega)]
  cases decide (Int.tmod x n<0)<;>exact⟨_,rfl⟩
theorem Tx {p:ah} (hp:Small p): ∃B,qC p=some B:=by
 unfold qC
 rw [xh p hp,Option.bind_some]
 cases(bif (bif (decide (60<(p.sources.length:Int)))then true else(decide (60<(p.links.length:Int))))then true else(decide (60<(p.racks.length:Int))))<;>exact⟨_,rfl⟩
theorem Nu {p:ah} (hp:Small p) (s:State) (b:Int): ∃x e,jd p s b=some (x,e)∧jm p s b=some (x,e)∧x.length≤8∧ ∀y∈x,y.links.length≤240000:=by
 by_cases h0:iB p s=0
 ·obtain⟨hv,hs⟩:=eD.mp h0
  by_cases hb:0≤b∧b<p.buses
  ·obtain⟨k,rfl⟩: ∃k:Nat,b=(k:Int):=⟨b.toNat,by omega⟩
   exact⟨_,_,Ta hv hs hb.2,Mx hv hs hb.2,Mr s hv k,fun y hy=>(Nz hv hs hb.2 y hy).ll⟩
  ·refine⟨[],1, ?_, ?_,by simp,by simp⟩
   ·unfold jd
    rw [jX p s hp,h0,Option.bind_some]
    have:(bif (decide (b<0))then true else(decide (p.buses≤b)))=true:=by
     by_cases h:b<0
     ·rw [decide_eq_true h];rfl
     ·rw [decide_eq_false h,cond_false,decide_eq_true (by omega)]
    rw [this];rfl
   ·unfold jm
    rw [dI p s hp,h0,Option.bind_some]
    have:(bif (decide (b<0))then true else(decide (p.buses≤b)))=true:=by
     by_cases h:b<0
     ·rw [decide_eq_true h];rfl
     ·rw [decide_eq_false h,cond_false,decide_eq_true (by omega)]
    rw [this];rfl
 ·refine⟨[],iB p s, ?_, ?_,by simp,by simp⟩
  ·unfold jd
   rw [jX p s hp,Option.bind_some,decide_eq_false h0];rfl
  ·unfold jm
   rw [dI p s hp,Option.bind_some,decide_eq_false h0];rfl
theorem DU (p:ah) (l:List Short):(wJ p l).1.length≤40:=by
 unfold wJ
 split
 ·simp
 ·rename_i h
  have hv:=qB.mp (Classical.not_not.mp h)
  have:=hv.ll
  split
  ·simp
  ·split
   ·simp
   ·rw [aV];omega
theorem Vd {p:ah} (hp:Small p) (s:State) (bus b2:Int) (t:Nat) (ht:t<2):gH p s bus b2 (t:Int)=some (.next (((t+1:Nat)):Int)):=by
 unfold gH
 have d1:decide ((t:Int)<([bus,b2].length:Int))=true:=decide_eq_true (by simp;omega)
 simp only [d1,cond_true,Int.toNat_natCast]
 generalize at' [bus,b2] t=b
 obtain⟨x,e,h1,h2,h3,h4⟩:=Nu hp s b
 rw [ai ⟨by omega,by simp;omega⟩,h1,h2]
 simp only [Option.bind_some,decide_true,Bool.not_true]
 rw [show gB [(false,false)]=true from rfl,cond_true,G8 x (by omega) (fun y hy=>by have:=h4 y hy;omega),Option.bind_some]
 simp only [Bool.not_true,cond_false]
 rw [Ih hp (fun y hy=>by have:=h4 y hy;omega),Cf hp (fun y hy=>by have:=h4 y hy;omega)]
 simp only [Option.bind_some,decide_true,Bool.not_true]
 rw [show gB [(false,false)]=true from rfl,cond_true,xV _ (by have:=DU p x;omega),Option.bind_some]
 simp only [Bool.not_true,cond_false]
 rw [wr (by omega)]
 rfl
theorem Yp (l:List Short) (h:l.length≤20):ay (dM l) FUEL ([],0)=some (.ret true)∨(ay (dM l) FUEL ([],0)=some (.brk l)∧ ∀x∈l,x.links.length≤60):=by
 have hstep: ∀t,t<l.length→(at' l t).links.length≤60→dM l (l.take t,(t:Int))=some (.next (l.take (t+1),((t+1:Nat):Int))):=by
  intro t ht hl
  unfold dM
  have d1:decide ((t:Int)<(l.length:Int))=true:=decide_eq_true (by omega)
  have d2:decide (60<((at' l t).links.length:Int))=false:=decide_eq_false (by omega)
  simp only [d1,cond_true,Int.toNat_natCast,d2,cond_false]
  have hlen:(l.take t).length≤20:=by rw [List.length_take];omega
  rw [ai ⟨by omega,by omega⟩,ai ⟨by omega,by rw [List.length_singleton];omega,by rw [List.length_singleton];omega⟩,wr (by omega),iY ht]
  rfl
 cases hf:l.findIdx? (fun x=>decide (60<x.links.length))with
 |none=>
  rw [List.findIdx?_eq_none_iff]at hf
  have hs: ∀x∈l,x.links.length≤60:=fun x hx=>by have:=of_decide_eq_false (hf x hx);omega
  refine .inr ⟨?_,hs⟩
  refine aY (fun t=>(l.take t,(t:Int))) l.length (.brk l) (fuel_lt (by omega)) (fun t ht=>hstep t ht (hs _ (at_mem ht))) ?_
  unfold dM
  simp
 |some k=>
  rw [List.findIdx?_eq_some_iff_getElem]at hf
  obtain⟨hk,hb,hpre⟩:=hf
  refine .inl ?_
  refine aY (fun t=>(l.take t,(t:Int))) k (.ret true) (fuel_lt (by omega)) (fun t ht=>hstep t (by omega) ?_) ?_
  ·have:=hpre t ht
   rw [dZ (by omega)]
   simpa using this
  ·unfold dM
   have d1:decide ((k:Int)<(l.length:Int))=true:=decide_eq_true (by omega)
   have hb':=of_decide_eq_true hb
   have d2:decide (60<((at' l k).links.length:Int))=true:=by rw [dZ hk];exact decide_eq_true (by omega)
   simp only [d1,cond_true,Int.toNat_natCast,d2]
   rw [ai ⟨by omega,by omega⟩,wZ]
   rfl
theorem GX (p:ah) (s:State) (bus:Int) (l:List Short) (hp:Small p):jy p s bus l=some true:=by
 unfold jy
 obtain⟨B,hB⟩:=Tx hp
 rw [hB,Option.bind_some]
 generalize hbig:(bif B then true else decide (20<(l.length:Int)))=big
 cases big with
 |true=>rw [cond_true,wZ];rfl
 |false=>
  have hl:l.length≤20:=by
   cases B with
   |true=>cases hbig
   |false=>
    have:decide (20<(l.length:Int))=false:=hbig
    have:=of_decide_eq_false this
    omega
  rw [cond_false]
  rcases Yp l hl with h|⟨h,hs⟩
  ·rw [h];rfl
  ·rw [h]
   obtain⟨b2,hb2⟩:=TK bus p.buses
   simp only [Option.bind_some]
   rw [hb2,Option.bind_some]
   have key:ay (gH p s bus b2) FUEL 0=some (.brk ()):=by
    refine aY (fun t=>(t:Int)) 2 (.brk ()) (fuel_lt (by omega)) (fun t ht=>Vd hp s bus b2 t ht) ?_
    unfold gH
    rfl
   rw [key]
   simp only [Option.bind_some]
   rw [Ih hp (fun y hy=>by have:=hs y hy;omega),Cf hp (fun y hy=>by have:=hs y hy;omega)]
   simp only [Option.bind_some,decide_true]
   rw [show gB [(true,true)]=true from rfl,cond_true,xV _ (by have:=DU p l;omega),Option.bind_some]
   simp only [cond_true]
   rw [show gB [(true,true)]=true from rfl,cond_true,wZ]
   rfl
def kS (n b:Nat):Bool:=decide (n / 2 ^ b % 2=1)
theorem WW: ∀(k:Nat) (C:Nat→Bool),∃n,n<2 ^ k∧ ∀b,b<k→kS n b=C b
 |0,C=> ⟨0,by simp,fun b hb=>by omega⟩
 |k+1,C=>by
  obtain⟨n,h1,h2⟩:=WW k fun b=>C (b+1)
  refine⟨2*n+(if C 0=true then 1 else 0), ?_,fun b hb=> ?_⟩
  ·rw [Nat.pow_succ];split<;>omega
  ·match b,hb with
   |0,_=>
    unfold kS
    rw [Nat.pow_zero,Nat.div_one]
    cases C 0
    ·rw [if_neg (by simp)];exact decide_eq_false (by omega)
    ·rw [if_pos rfl];exact decide_eq_true (by omega)
   |b+1,hb=>
    have:kS (2*n+(if C 0=true then 1 else 0)) (b+1)=kS n b:=by
     unfold kS
     rw [Nat.pow_succ,Nat.mul_comm (2 ^ b) 2,←Nat.div_div_eq_div_mul]
     have:(2*n+(if C 0=true then 1 else 0)) / 2=n:=by split<;>omega
     rw [this]
    rw [this,h2 b (by omega)]
theorem Tq (n b:Nat) (hb:b<64):decide (Int.tmod (Int.fdiv (n:Int) (2 ^ min b (IntKind.bits .i64))) 2=1)=kS n b:=by
 have e0:min b (IntKind.bits .i64)=b:=by show min b 64=b;omega
 rw [e0]
 have e1:Int.fdiv (n:Int) (2 ^ b)=((n / 2 ^ b:Nat):Int):=by
  rw [Int.fdiv_eq_ediv_of_nonneg _ (by exact_mod_cast Nat.zero_le (2 ^ b))]
  exact_mod_cast rfl
 rw [e1]
 unfold kS
 have e2:Int.tmod ((n / 2 ^ b:Nat):Int) 2=((n / 2 ^ b % 2:Nat):Int):=rfl
 rw [e2]
 exact decide_eq_decide.mpr (by omega)
theorem Ik {p:ah} {s:State} (hp:VP p) {C D:Nat→Bool} (h: ∀b:Nat,(b:Int)<p.buses→C b=D b):oV p s C=oV p s D:=by
 have e1:aU p.sources.length (JU p s C)=aU p.sources.length (JU p s D):=bR fun k hk=>by
  have:=(hp.src k hk).bus
  unfold JU;rw [h _ (by omega)]
 have e2:aU p.links.length (JS p s C)=aU p.links.length (JS p s D):=bR fun k hk=>by
  have ha:=(hp.lnk k hk).a;have hb:=(hp.lnk k hk).b
  unfold JS;rw [h _ (by omega),h _ (by omega)]
 have e3:aU p.racks.length (Kk p C)=aU p.racks.length (Kk p D):=bR fun k hk=>by
  have ha:=(hp.rck k hk).e0;have hb:=(hp.rck k hk).e1
  unfold Kk Rv
  rw [h _ (by omega)]
  by_cases h0:0≤(at' p.racks k).feeds.e1
  ·rw [h _ (by omega)]
  ·rw [decide_eq_false h0];rfl
 unfold oV;rw [e1,e2,e3]
def yY (s:State) (n:Nat):Nat→Bool
 |0=>true
 |k+1=>yY s n k && !(kS n k && at' s.badBus k)
theorem H7 {s:State} {n:Nat}: ∀{k:Nat},yY s n k=true↔ ∀b,b<k→kS n b=true→at' s.badBus b=false
 |0=> ⟨fun _ b hb=>by omega,fun _=>rfl⟩
 |k+1=>by
  unfold yY
  rw [Bool.and_eq_true,H7]
  constructor
  ·rintro ⟨h1,h2⟩ b hb hc
   by_cases e:b=k
   ·subst e;rw [hc]at h2;simpa using h2
   ·exact h1 b (by omega) hc
  ·intro h
   refine⟨fun b hb=>h b (by omega), ?_⟩
   cases hc:kS n k with
   |false=>rfl
   |true=>rw [h k (by omega) hc];rfl
section
variable {p:ah} {s:State} (hp:VP p) (hs:VS p s)
include hp hs
theorem UZ (n:Nat):ay (nX p s (n:Int)) FUEL (List.replicate p.buses.toNat false,true,0)=some (.brk (tab p.buses.toNat (kS n),yY s n p.buses.toNat)):=by
 have hb:=hp.b;have h4:=hs.badBus
 have e0:List.replicate p.buses.toNat false=tab p.buses.toNat fun b=>if b<0 then kS n b else false:=by rw [BH];exact bO fun b _=>by simp
 rw [e0]
 refine aY (fun k=>(tab p.buses.toNat (fun b=>if b<k then kS n b else false),yY s n k,(k:Int))) p.buses.toNat _ (fuel_lt (by omega)) (fun k hk=> ?_) ?_
 ·have ht:(tab p.buses.toNat (fun b=>if b<k then kS n b else false)).set k (kS n k)=tab p.buses.toNat (fun b=>if b<k+1 then kS n b else false):=by
   rw [tO]
   refine bO fun b hb2=> ?_
   by_cases e:b=k
   ·subst e;rw [if_pos rfl,if_pos (by omega)]
   ·rw [if_neg e]
    by_cases e2:b<k
    ·rw [if_pos e2,if_pos (by omega)]
    ·rw [if_neg e2,if_neg (by omega)]
  unfold nX
  dsimp only
  rw [Int.toNat_natCast,Tq n k (by omega),vV (by omega),cond_true,ai ⟨by omega,by omega,by rw [aV];omega⟩,ht,jV (by omega),if_pos (by omega),ai ⟨fun _=>by rw [aV];omega,fun _=>by omega⟩,wr (x:=(k:Int)+1) (by omega),mK]
  have:(bif yY s n k then !(bif kS n k then at' s.badBus k else false)else false)=yY s n (k+1):=by
   show _=(yY s n k && !(kS n k && at' s.badBus k))
   cases yY s n k<;>cases kS n k<;>rfl
  rw [this]
 ·unfold nX
  dsimp only
  rw [Jd (by omega),cond_false]
  refine congrArg (fun l=>some (aM.done (Ex.brk (l,_)))) (bO fun b hb2=> ?_)
  rw [if_pos hb2]
theorem Wu (f g:Nat→Bool):ay (oF p (tab p.buses.toNat g)) FUEL (tab p.buses.toNat f,0)=some (.brk (tab p.buses.toNat fun b=>f b && g b)):=by
 have hb:=hp.b
 have e0:tab p.buses.toNat f=tab p.buses.toNat fun b=>if b<0 then f b && g b else f b:=bO fun b _=>by simp
 rw [e0]
 refine aY (fun k=>(tab p.buses.toNat (fun b=>if b<k then f b && g b else f b),(k:Int))) p.buses.toNat _ (fuel_lt (by omega)) (fun k hk=> ?_) ?_
 ·unfold oF
  dsimp only
  rw [Int.toNat_natCast,vV (by omega),cond_true,ai ⟨by rw [aV];omega,fun _=>by rw [aV];omega⟩,jV (by omega),jV (by omega),if_neg (Nat.lt_irrefl _),wr (x:=(k:Int)+1) (by omega),tO,mK]
  refine congrArg (fun l=>some (aM.next (l,_))) (bO fun b hb2=> ?_)
  by_cases e:b=k
  ·subst e;rw [if_pos rfl,if_pos (by omega)];cases f b<;>rfl
  ·rw [if_neg e]
   by_cases e2:b<k
   ·rw [if_pos e2,if_pos (by omega)]
   ·rw [if_neg e2,if_neg (by omega)]
 ·unfold oF
  dsimp only
  rw [Jd (by omega),cond_false]
  refine congrArg (fun l=>some (aM.done (Ex.brk l))) (bO fun b hb2=> ?_)
  rw [if_pos hb2]
def LI (p:ah) (s:State) (n:Nat) (least:Int) (out:List Bool):Prop:=
 ∃f:Nat→Bool,out=tab p.buses.toNat f∧((least= -1∧ ∀i,i<n→yY s i p.buses.toNat=false)∨
  (0≤least∧(∃i,i<n∧yY s i p.buses.toNat=true∧oV p s (kS i)=least)∧(∀i,i<n→yY s i p.buses.toNat=true→least≤oV p s (kS i))∧ ∀b,b<p.buses.toNat→(f b=true↔ ∀i,i<n→yY s i p.buses.toNat=true→oV p s (kS i)=least→kS i b=true)))
theorem Pt (C:Nat→Bool):0≤oV p s C:=by
 have h1:=xA (n:=p.sources.length) (f:=JU p s C) fun i hi=>(Mg hp C hi).1
 have h2:=xA (n:=p.links.length) (f:=JS p s C) fun i hi=>(M9 hp C hi).1
 have h3:=xA (n:=p.racks.length) (f:=Kk p C) fun i hi=>(Qm hp C hi).1
 unfold oV;omega
theorem QS {n:Nat} (hn:n<2 ^ p.buses.toNat) (h10:p.buses≤10) {least:Int} {out:List Bool} (h:LI p s n least out): ∃least' out',jk p s (least,out,(n:Int))=some (.next (least',out',((n+1:Nat):Int)))∧LI p s (n+1) least' out':=by
 have hb:=hp.b
 obtain⟨f,rfl,h⟩:=h
 have hpow:2 ^ p.buses.toNat≤1024:=Nat.pow_le_pow_right (show 0<2 by omega) (show p.buses.toNat≤10 by omega)
 have e1:IntKind.wrap .i64 ((1:Int)*2 ^ min p.buses.toNat (IntKind.bits .i64))=((2 ^ p.buses.toNat:Nat):Int):=by
  have:min p.buses.toNat (IntKind.bits .i64)=p.buses.toNat:=by show min p.buses.toNat 64=_;omega
  rw [this,Int.one_mul]
  have e:(2:Int) ^ p.buses.toNat=((2 ^ p.buses.toNat:Nat):Int):=by simp
  rw [e]
  generalize 2 ^ p.buses.toNat=P at hpow
  exact wr (by omega)
 have hcap:jh p s (tab p.buses.toNat (kS n))=some (oV p s (kS n)):=by
  rw [KY hp hs (by rw [aV];omega)]
  exact congrArg some (Ik hp fun b hb2=>jV (by omega))
 have hnn:=Pt hp hs (kS n)
 have body:jk p s (least,tab p.buses.toNat f,(n:Int))=some (.next (
   if yY s n p.buses.toNat=false then(least,tab p.buses.toNat f,((n+1:Nat):Int))else
   if least<0∨oV p s (kS n)<least then(oV p s (kS n),tab p.buses.toNat (kS n),((n+1:Nat):Int))else
   if oV p s (kS n)=least then(least,tab p.buses.toNat (fun b=>f b && kS n b),((n+1:Nat):Int))else(least,tab p.buses.toNat f,((n+1:Nat):Int)))):=by
  unfold jk
  dsimp only
  rw [ai (by omega),e1,vV (by omega),cond_true,ai ⟨by omega,by omega,by omega⟩,UZ hp hs n,wr (x:=(n:Int)+1) (by omega),mK]
  simp only [Option.bind_some]
  cases hr:yY s n p.buses.toNat with
  |false=>rfl
  |true=>
   rw [Bool.not_true,cond_false,hcap,Option.bind_some,if_neg (by simp)]
   by_cases c1:least<0
   ·rw [decide_eq_true c1,if_pos (.inl c1)];rfl
   ·rw [decide_eq_false c1,cond_false]
    by_cases c2:oV p s (kS n)<least
    ·rw [decide_eq_true c2,if_pos (.inr c2)];rfl
    ·rw [decide_eq_false c2,cond_false,if_neg (fun q=>q.elim c1 c2)]
     by_cases c3:oV p s (kS n)=least
     ·rw [decide_eq_true c3,cond_true,Wu hp hs,if_pos c3];rfl
     ·rw [decide_eq_false c3,cond_false,if_neg c3];rfl
 rw [body]
 have lt1: ∀i,i<n+1→i<n∨i=n:=fun i hi=>by omega
 cases hr:yY s n p.buses.toNat with
 |false=>
  refine⟨least,tab p.buses.toNat f,rfl,f,rfl, ?_⟩
  rcases h with⟨h1,h2⟩|⟨h1,⟨i0,h2,h3,h4⟩,h5,h6⟩
  ·exact .inl ⟨h1,fun i hi=>(lt1 i hi).elim (h2 i) fun e=>e ▸ hr⟩
  ·refine .inr ⟨h1,⟨i0,by omega,h3,h4⟩,fun i hi hri=> ?_,fun b hb2=>(h6 b hb2).trans ⟨fun g i hi hri hc=> ?_,fun g i hi=>g i (by omega)⟩⟩
   ·rcases lt1 i hi with hi|rfl
    ·exact h5 i hi hri
    ·rw [hr]at hri;cases hri
   ·rcases lt1 i hi with hi|rfl
    ·exact g i hi hri hc
    ·rw [hr]at hri;cases hri
 |true=>
  rw [if_neg (by simp)]
  by_cases c1:least<0∨oV p s (kS n)<least
  ·rw [if_pos c1]
   have small: ∀i,i<n→yY s i p.buses.toNat=true→oV p s (kS n)<oV p s (kS i):=fun i hi hri=>by
    rcases h with⟨h1,h2⟩|⟨h1,_,h5,_⟩
    ·rw [h2 i hi]at hri;cases hri
    ·have:=h5 i hi hri;omega
   refine⟨_,_,rfl,kS n,rfl, .inr ⟨hnn,⟨n,by omega,hr,rfl⟩,fun i hi hri=> ?_,fun b hb2=> ⟨fun g i hi hri hc=> ?_,fun g=>g n (by omega) hr rfl⟩⟩⟩
   ·rcases lt1 i hi with hi|rfl
    ·have:=small i hi hri;omega
    ·exact Int.le_refl _
   ·rcases lt1 i hi with hi|rfl
    ·have:=small i hi hri;omega
    ·exact g
  ·rw [if_neg c1]
   rcases h with⟨h1,h2⟩|⟨h1,⟨i0,h2,h3,h4⟩,h5,h6⟩
   ·exact absurd (.inl (by omega)) c1
   ·by_cases c3:oV p s (kS n)=least
    ·rw [if_pos c3]
     refine⟨_,_,rfl,_,rfl, .inr ⟨h1,⟨i0,by omega,h3,h4⟩,fun i hi hri=> ?_,fun b hb2=> ?_⟩⟩
     ·rcases lt1 i hi with hi|rfl
      ·exact h5 i hi hri
      ·omega
     ·rw [Bool.and_eq_true,h6 b hb2]
      exact⟨fun g i hi hri hc=>(lt1 i hi).elim (fun hi=>g.1 i hi hri hc) fun e=>e ▸ g.2,fun g=> ⟨fun i hi=>g i (by omega),g n (by omega) hr c3⟩⟩
    ·rw [if_neg c3]
     refine⟨_,_,rfl,_,rfl, .inr ⟨h1,⟨i0,by omega,h3,h4⟩,fun i hi hri=> ?_,fun b hb2=>(h6 b hb2).trans ⟨fun g i hi hri hc=> ?_,fun g i hi=>g i (by omega)⟩⟩⟩
     ·rcases lt1 i hi with hi|rfl
      ·exact h5 i hi hri
      ·omega
     ·rcases lt1 i hi with hi|rfl
      ·exact g i hi hri hc
      ·exact absurd hc c3
theorem IW (h10:p.buses≤10) {x:aA} {cut:List Bool} (h:Sv p s x cut):l8 p s=some (PL p x,cut):=by
 have hb:=hp.b
 have hpow:2 ^ p.buses.toNat≤1024:=Nat.pow_le_pow_right (show 0<2 by omega) (show p.buses.toNat≤10 by omega)
 have e1:IntKind.wrap .i64 ((1:Int)*2 ^ min p.buses.toNat (IntKind.bits .i64))=((2 ^ p.buses.toNat:Nat):Int):=by
  have:min p.buses.toNat (IntKind.bits .i64)=p.buses.toNat:=by show min p.buses.toNat 64=_;omega
  rw [this,Int.one_mul]
  have e:(2:Int) ^ p.buses.toNat=((2 ^ p.buses.toNat:Nat):Int):=by simp
  rw [e]
  generalize 2 ^ p.buses.toNat=P at hpow
  exact wr (by omega)
 have key:=uw (body:=jk p s)
  (fun z:Int × List Bool × Int=> ∃n:Nat,z.2.2=(n:Int)∧n≤2 ^ p.buses.toNat∧LI p s n z.1 z.2.1)
  (fun z=>2 ^ p.buses.toNat - z.2.2.toNat)
  (fun r:Ex (Int × List Bool) (Int × List Bool)=> ∃l o,r= .brk (l,o)∧LI p s (2 ^ p.buses.toNat) l o)
  (fun z hI=> ?_)
 ·obtain⟨r,e,l,o,rfl,f,rfl,hl⟩:=key FUEL (-1,List.replicate p.buses.toNat false,0) ⟨0,rfl,Nat.zero_le _,fun _=>false,BH _ _, .inl ⟨rfl,fun i hi=>by omega⟩⟩ (by show 2 ^ p.buses.toNat - _<FUEL;unfold FUEL;omega)
  unfold l8
  rw [ai ⟨by omega,by omega,by omega⟩,e]
  show some (l,tab p.buses.toNat f)=_
  obtain⟨i0,g1,g2⟩:=WW p.buses.toNat (at' cut)
  have g3:yY s i0 p.buses.toNat=true:=H7.2 fun b hb2 hc=>h.rt b (by omega) (by rw [←g2 b hb2];exact hc)
  have g4:oV p s (kS i0)=PL p x:=by rw [h.eq];exact Ik hp fun b hb2=>g2 b (by omega)
  have rg: ∀i,yY s i p.buses.toNat=true→Ky p s (kS i):=fun i hi b hb2 hc=>H7.1 hi b (by omega) hc
  rcases hl with⟨h1,h2⟩|⟨h1,⟨i1,h2,h3,h4⟩,h5,h6⟩
  ·rw [h2 i0 g1]at g3;cases g3
  ·have q1:=h5 i0 g1 g3
   have q2:=aa9 hp hs h.ps (rg i1 h3)
   have el:l=PL p x:=by omega
   subst el
   refine congrArg (fun o=>some (_,o)) (Dm (by rw [aV,h.cl]) fun b hb2=> ?_)
   rw [aV]at hb2
   rw [jV hb2]
   have:f b=true↔at' cut b=true:=(h6 b hb2).trans ⟨fun g=>by rw [←g2 b hb2];exact g i0 g1 g3 g4,fun g i hi hri hc=>h.least _ (rg i hri) hc.symm b (by omega) g⟩
   cases hc:at' cut b with
   |true=>exact this.2 hc
   |false=>cases hf:f b with
    |false=>rfl
    |true=>rw [this.1 hf]at hc;cases hc
 ·obtain⟨l,o,t⟩:=z
  obtain⟨n,rfl,hn,hL⟩:=hI
  dsimp only at hL ⊢
  by_cases hn2:n<2 ^ p.buses.toNat
  ·left
   obtain⟨l',o',e,h'⟩:=QS hp hs hn2 h10 hL
   refine⟨_,e,⟨n+1,rfl,by omega,h'⟩, ?_⟩
   show 2 ^ p.buses.toNat - (((n+1:Nat):Int)).toNat<2 ^ p.buses.toNat - (n:Int).toNat
   omega
  ·right
   have:n=2 ^ p.buses.toNat:=by omega
   subst this
   unfold jk
   dsimp only
   rw [ai (by omega),e1,Jd (by omega),cond_false]
   exact⟨_,rfl,l,o,rfl,hL⟩
end
theorem Hl {α ρ:Type} {body:List α × Int→Option (aM (List α × Int) (Ex (List α) ρ))} (n:Nat) (f:Nat→List α) (l0:List α) (hn:n≤1000) (h0:l0.length≤1000) (hf: ∀i,i<n→(f i).length≤1)
  (hb: ∀(i:Nat) (l:List α),i<n→l.length≤2000→body (l,(i:Int))=some (.next (l++f i,((i+1:Nat):Int)))) (he: ∀l,body (l,(n:Int))=some (.done (.brk l))):
  ay body FUEL (l0,0)=some (.brk (l0++(List.range n).flatMap f)):=by
 have hlen: ∀k,k≤n→((List.range k).flatMap f).length≤k:=fun k=>by
  induction k with
  |zero=>intro _;simp
  |succ k ih=>
   intro hk
   rw [List.range_succ,List.flatMap_append,List.length_append]
   have:=ih (by omega)
   have h1:=hf k (by omega)
   have:([k].flatMap f).length≤1:=by simpa using h1
   omega
 have key:ay body FUEL (l0++(List.range 0).flatMap f,((0:Nat):Int))=some (.brk (l0++(List.range n).flatMap f)):=by
  refine aY (fun k=>(l0++(List.range k).flatMap f,(k:Int))) n _ (fuel_lt (by omega)) (fun k hk=> ?_) (he _)
  have:=hlen k (by omega)
  rw [hb k _ hk (by rw [List.length_append];omega),List.range_succ,List.flatMap_append,List.append_assoc]
  simp
 simpa using key
def Y6 (p:ah) (s:State) (C:Nat→Bool) (k:Nat):List Part:=if(bB p s k && !C (at' p.sources k).bus.toNat)=true then [⟨2,(k:Int)⟩]else []
def Y7 (p:ah) (s:State) (C:Nat→Bool) (k:Nat):List Part:=if(aN p s k && !(C (at' p.links k).a.toNat==C (at' p.links k).b.toNat))=true then [⟨3,(k:Int)⟩]else []
def XP (p:ah) (s:State) (C:Nat→Bool):List Part:=(List.range p.sources.length).flatMap (Y6 p s C)++(List.range p.links.length).flatMap (Y7 p s C)
theorem EW (p:ah) (s:State) (C:Nat→Bool) (k:Nat):(Y6 p s C k).length≤1:=by unfold Y6;split<;>simp
theorem HY (p:ah) (s:State) (C:Nat→Bool) (k:Nat):(Y7 p s C k).length≤1:=by unfold Y7;split<;>simp
theorem vz {α:Type} {f:Nat→List α} (h: ∀k,(f k).length≤1): ∀n,((List.range n).flatMap f).length≤n
 |0=>by simp
 |n+1=>by
  rw [List.range_succ,List.flatMap_append,List.length_append]
  have:=vz h n
  have:([n].flatMap f).length≤1:=by simpa using h n
  omega
section
variable {p:ah} {s:State} (hp:VP p) (hs:VS p s)
include hp hs
theorem QR {cut:List Bool} (hc:(cut.length:Int)=p.buses):oJ p.buses p.sources p.links p.racks s.closed s.locked s.badLink s.on_ s.badSource s.earthed s.badBus cut []=some (XP p s (at' cut)):=by
 unfold oJ
 have hsl:=hp.sl;have hll:=hp.ll;have hrl:=hp.rl
 have l1:=vz (EW p s (at' cut)) p.sources.length
 have l2:=vz (HY p s (at' cut)) p.links.length
 rw [Hl p.sources.length (Y6 p s (at' cut)) [] (by omega) (by simp) (fun i _=>EW _ _ _ _) (fun k l hk hl=> ?_) (fun l=>by unfold o8;simp)]
 rotate_left
 ·have hf:gX ⟨p.buses,p.sources,p.links,p.racks⟩ ⟨s.closed,s.locked,s.badLink,s.on_,s.badSource,s.earthed,s.badBus⟩ (k:Int)=some (bB p s k):=ru hp hs hk
  have hv:=(hp.src k hk).bus
  unfold o8 fT Y6
  dsimp only
  rw [Int.toNat_natCast,vV (by omega),cond_true,ai (by omega),hf,Option.bind_some,wr (x:=(k:Int)+1) (by omega),mK]
  have q:(0:Int)≤(at' p.sources k).bus∧(at' p.sources k).bus<(cut.length:Int):=by omega
  cases bB p s k<;>cases at' cut (at' p.sources k).bus.toNat<;>simp only [cond_true,cond_false,Bool.not_true,Bool.not_false,Bool.and_true,Bool.and_false,if_true,Option.bind_some,Bool.false_and,Bool.true_and,show(decide ((2:Int)=0))=false from rfl]
  ·rw [ai fun _=>q];simp
  ·rw [ai fun _=>q];simp
  ·rw [ai ⟨by rw [List.length_singleton];omega,by rw [List.length_singleton];omega⟩,Option.bind_some,ai fun _=>q]
  ·rw [ai fun _=>q];simp
 simp only [Option.bind_some,List.nil_append]
 rw [Hl p.links.length (Y7 p s (at' cut)) _ (by omega) (by omega) (fun i _=>HY _ _ _ _) (fun k l hk hl=> ?_) (fun l=>by unfold pu;simp)]
 rotate_left
 ·have hf:dG ⟨p.buses,p.sources,p.links,p.racks⟩ ⟨s.closed,s.locked,s.badLink,s.on_,s.badSource,s.earthed,s.badBus⟩ (k:Int)=some (aN p s k):=tZ hp hs hk
  have ha:=(hp.lnk k hk).a;have hb:=(hp.lnk k hk).b
  unfold pu fT Y7
  dsimp only
  rw [Int.toNat_natCast,vV (by omega),cond_true,ai (by omega),hf,Option.bind_some,wr (x:=(k:Int)+1) (by omega),mK]
  have q:(0:Int)≤(at' p.links k).a∧(at' p.links k).a<(cut.length:Int):=by omega
  have q':(0:Int)≤(at' p.links k).b∧(at' p.links k).b<(cut.length:Int):=by omega
  have q2:(l.length+[(⟨3,(k:Int)⟩:Part)].length)*16≤140737488355328∧l.length+[(⟨3,(k:Int)⟩:Part)].length≤4611686018427387904:=⟨by rw [List.length_singleton];omega,by rw [List.length_singleton];omega⟩
  rw [ai q2]
  have q3:(gB [(aN p s k,true)]=true→(0:Int)≤(at' p.links k).a∧(at' p.links k).a<(cut.length:Int))∧(gB [(aN p s k,true)]=true→(0:Int)≤(at' p.links k).b∧(at' p.links k).b<(cut.length:Int)):=⟨fun _=>q,fun _=>q'⟩
  simp only [ai q3]
  cases aN p s k<;>cases at' cut (at' p.links k).a.toNat<;>cases at' cut (at' p.links k).b.toNat<;>first|(exact congrArg (fun z=>some (aM.next (z,_))) (List.append_nil l).symm)|rfl
 simp only [Option.bind_some]
 have key:ay (kE p.racks cut) FUEL (XP p s (at' cut),0)=some (.brk (XP p s (at' cut))):=by
  refine aY (fun k=>(XP p s (at' cut),(k:Int))) p.racks.length _ (fuel_lt (by omega)) (fun k hk=> ?_) (by unfold kE;simp)
  have hv:=hp.rck k hk;have ha:=hv.e0;have hb:=hv.e1
  have hf: ∃r,bU [(at' p.racks k).feeds.e0,(at' p.racks k).feeds.e1] cut=some r:=by
   unfold bU gY
   rw [nP [(at' p.racks k).feeds.e0,(at' p.racks k).feeds.e1] (fun b=>decide (0≤b) && at' cut b.toNat) id (by simp) (fun i hi=> ?_) (by unfold dN;rfl)]
   ·cases [(at' p.racks k).feeds.e0,(at' p.racks k).feeds.e1].findIdx? (fun b=>decide (0≤b) && at' cut b.toNat)<;>exact⟨_,rfl⟩
   ·have hx: -1≤at' [(at' p.racks k).feeds.e0,(at' p.racks k).feeds.e1] i∧at' [(at' p.racks k).feeds.e0,(at' p.racks k).feeds.e1] i<p.buses:=by
     match i,hi with
     |0,_=>exact(show -1≤(at' p.racks k).feeds.e0∧(at' p.racks k).feeds.e0<p.buses by omega)
     |1,_=>exact hb
    unfold dN lH
    rw [Int.toNat_natCast]
    generalize at' [(at' p.racks k).feeds.e0,(at' p.racks k).feeds.e1] i=b at hx ⊢
    rw [ai (fun h=> ⟨of_decide_eq_true (gB1 h),by omega⟩)]
    have e:(bif decide (0≤b)then at' cut b.toNat else false)=(decide (0≤b) && at' cut b.toNat):=by cases decide (0≤b)<;>rfl
    rw [e]
    exact nL hi (by simp) _ id _
  obtain⟨r,hr⟩:=hf
  unfold kE fT
  dsimp only
  rw [Int.toNat_natCast,vV (by omega),cond_true,ai (by omega),hr,Option.bind_some,wr (x:=(k:Int)+1) (by omega)]
  cases r<;>rfl
 have e:(List.range p.sources.length).flatMap (Y6 p s (at' cut))++(List.range p.links.length).flatMap (Y7 p s (at' cut))=XP p s (at' cut):=rfl
 rw [e,key];rfl
theorem VI {x:aA} {cut:List Bool} (e:bN p s=some (x,cut,0)) (h:Sv p s x cut):lI p s=some (XP p s (at' cut),0):=by
 have hb:=hp.b;have hcl:=h.cl
 unfold lI ny
 rw [e,Option.bind_some]
 dsimp only
 rw [decide_eq_true rfl,Bool.not_true,cond_false,Option.bind_some]
 dsimp only
 rw [QR hp hs (by omega)];rfl
theorem Nv (h10:p.buses≤10) {x:aA} {cut:List Bool} (h:Sv p s x cut):mg p s=some (XP p s (at' cut),0):=by
 have hb:=hp.b;have hcl:=h.cl
 have hsl:=hp.sl;have hll:=hp.ll
 have l1:=vz (EW p s (at' cut)) p.sources.length
 unfold mg
 rw [dI p s hp.small,eD.mpr ⟨hp,hs⟩,Option.bind_some,decide_eq_true rfl,Bool.not_true,cond_false,IW hp hs h10 h,Option.bind_some]
 rw [Hl p.sources.length (Y6 p s (at' cut)) [] (by omega) (by simp) (fun i _=>EW _ _ _ _) (fun k l hk hl=> ?_) (fun l=>by unfold tJ;simp)]
 rotate_left
 ·have hv:=(hp.src k hk).bus
  unfold tJ Y6
  dsimp only
  rw [Int.toNat_natCast,vV (by omega),cond_true,wX hp hs hk,Option.bind_some,ai ⟨fun _=>by omega,fun _=>by omega⟩,ai ⟨by rw [List.length_singleton];omega,by rw [List.length_singleton];omega⟩,wr (x:=(k:Int)+1) (by omega),mK]
  cases bB p s k<;>cases at' cut (at' p.sources k).bus.toNat<;>simp
 simp only [Option.bind_some,List.nil_append]
 rw [Hl p.links.length (Y7 p s (at' cut)) _ (by omega) (by omega) (fun i _=>HY _ _ _ _) (fun k l hk hl=> ?_) (fun l=>by unfold sQ;simp)]
 rotate_left
 ·have ha:=(hp.lnk k hk).a;have hbb:=(hp.lnk k hk).b
  unfold sQ Y7
  dsimp only
  rw [Int.toNat_natCast,vV (by omega),cond_true,qO hp hs hk,Option.bind_some,ai ⟨fun _=>by omega,fun _=>by omega,fun _=>by omega⟩,ai ⟨by rw [List.length_singleton];omega,by rw [List.length_singleton];omega⟩,wr (x:=(k:Int)+1) (by omega),mK]
  cases aN p s k<;>cases at' cut (at' p.links k).a.toNat<;>cases at' cut (at' p.links k).b.toNat<;>simp
 rfl
def ab4 (p:ah):Int:=aU p.racks.length fun r=>(at' p.racks r).power
theorem XL {x:aA} {cut:List Bool} (e:bN p s=some (x,cut,0)) (h:Sv p s x cut):nD p s=some (decide (PL p x=ab4 p),0):=by
 have hrl:=hp.rl
 unfold nD
 rw [e,Option.bind_some]
 dsimp only
 rw [decide_eq_true rfl,Bool.not_true,cond_false,rq p.racks.length (fun r=>(at' p.racks r).power) 0 (by omega) (fun i hi=>by have:=(hp.rck i hi).power;omega) (by omega) (fun k y hk hy=> ?_) (fun y=>by unfold wH;simp)]
 ·simp only [Option.bind_some]
  rw [h.ps.amount hp hs,Option.bind_some,Int.zero_add];rfl
 ·have hw:=(hp.rck k hk).power
  unfold wH
  dsimp only
  rw [Int.toNat_natCast,vV (by omega),cond_true,ai (by omega),wr' (x:=(k:Int)+1) (by omega),wr' (by omega),mK]
theorem QD (h10:p.buses≤10) {x:aA} {cut:List Bool} (h:Sv p s x cut):oC p s=some (decide (PL p x=ab4 p),0):=by
 have hrl:=hp.rl
 unfold oC
 rw [dI p s hp.small,eD.mpr ⟨hp,hs⟩,Option.bind_some,decide_eq_true rfl,Bool.not_true,cond_false,rq p.racks.length (fun r=>(at' p.racks r).power) 0 (by omega) (fun i hi=>by have:=(hp.rck i hi).power;omega) (by omega) (fun k y hk hy=> ?_) (fun y=>by unfold uL;simp)]
 ·simp only [Option.bind_some]
  rw [IW hp hs h10 h,Option.bind_some,Int.zero_add];rfl
 ·have hw:=(hp.rck k hk).power
  unfold uL
  dsimp only
  rw [Int.toNat_natCast,vV (by omega),cond_true,ai (by omega),wr' (x:=(k:Int)+1) (by omega),wr' (by omega),mK]
theorem Yg (C:Nat→Bool):(XP p s C).length≤100:=by
 have hsl:=hp.sl;have hll:=hp.ll
 have l1:=vz (EW p s C) p.sources.length
 have l2:=vz (HY p s C) p.links.length
 unfold XP;rw [List.length_append];omega
end
theorem A8 (l:List Part) (h:l.length≤100000):lW l l=some true:=by
 unfold lW
 rw [Bq (body:=lS l l) l (by omega) (fun t ht=> ?_) (by unfold lS;simp)]
 ·simp
 ·unfold lS
  rw [decide_eq_true (show(t:Int)<(l.length:Int) by omega),cond_true,ai ⟨by omega,by omega⟩,wr (by omega)]
  simp
theorem GY (p:ah) (s:State) (hp:Small p) (hr:RG s) (ht: ∀x∈p.links,x.trip.length≤8796093021952):jr p s=some true:=by
 unfold jr qC
 rw [Yc,xh p hp,Option.bind_some]
 generalize hbig:(bif (bif (decide (60<(p.sources.length:Int)))then true else(decide (60<(p.links.length:Int))))then true else(decide (60<(p.racks.length:Int))))=big
 cases big with
 |true=>rfl
 |false=>
  have h60:p.sources.length≤60∧p.links.length≤60∧p.racks.length≤60:=by
   by_cases c1:60<(p.sources.length:Int)
   ·rw [decide_eq_true c1]at hbig;cases hbig
   ·by_cases c2:60<(p.links.length:Int)
    ·rw [decide_eq_false c1,decide_eq_true c2]at hbig;cases hbig
    ·by_cases c3:60<(p.racks.length:Int)
     ·rw [decide_eq_false c1,decide_eq_false c2,decide_eq_true c3]at hbig;cases hbig
     ·omega
  obtain⟨b1,b2,b3⟩:=h60
  rw [cond_false,Option.bind_some]
  generalize hbig2:(bif decide (lq p=0)then(bif (decide (10<p.buses))then true else(decide (16<(p.links.length:Int))))else false)=big2
  cases big2 with
  |true=>rfl
  |false=>
   rw [cond_false,Iy p b1 b2 b3 ht,Option.bind_some,Im s hr,Option.bind_some,dI p s hp,Jt p b1 b2 b3 ht,Iu s hr]
   by_cases h0:iB p s=0
   ·obtain⟨hv,hs⟩:=eD.mp h0
    have h10:p.buses≤10:=by
     rw [decide_eq_true (qB.mpr hv),cond_true]at hbig2
     by_cases c1:10<p.buses
     ·rw [decide_eq_true c1]at hbig2;cases hbig2
     ·omega
    obtain⟨x,cut,e,h⟩:=OV hv hs
    rw [e,Option.bind_some,VI hv hs e h,Option.bind_some,XL hv hs e h,Option.bind_some,Nv hv hs h10 h,Option.bind_some,QD hv hs h10 h,Option.bind_some,h0,Option.bind_some]
    simp only [decide_true,Bool.not_true,cond_false,show gB [(false,false)]=true from rfl,cond_true]
    rw [A8 _ (by have:=Yg hv hs (at' cut);omega)]
    simp only [Option.bind_some,Bool.not_true,cond_false,beq_self_eq_true,show gB [(false,false)]=true from rfl,cond_true]
    rw [IW hv hs h10 h,Option.bind_some,h.ps.amount hv hs,Option.bind_some,je _ _ (by have:=h.cl;have:=hv.b;omega),vR hp s x]
    unfold Cj
    rw [if_pos h0,if_pos (h.ps.afq hv hs)]
    simp [gB]
   ·have e:=TL hp h0
    have e2:lI p s=some ([],iB p s):=by
     unfold lI;rw [e,Option.bind_some];dsimp only;rw [decide_eq_false h0];rfl
    have e3:nD p s=some (false,iB p s):=by
     unfold nD;rw [e,Option.bind_some];dsimp only;rw [decide_eq_false h0];rfl
    have e4:mg p s=some ([],iB p s):=by
     unfold mg;rw [dI p s hp,Option.bind_some,decide_eq_false h0];rfl
    have e5:oC p s=some (false,iB p s):=by
     unfold oC;rw [dI p s hp,Option.bind_some,decide_eq_false h0];rfl
    rw [e,Option.bind_some,e2,Option.bind_some,e3,Option.bind_some,e4,Option.bind_some,e5,Option.bind_some,Option.bind_some]
    simp only [decide_true,Bool.not_true,cond_false,show gB [(false,false)]=true from rfl,cond_true]
    rw [A8 [] (by simp)]
    simp only [Option.bind_some,Bool.not_true,cond_false,beq_self_eq_true,show gB [(false,false)]=true from rfl,cond_true]
    rw [decide_eq_false h0]
    rfl
def smA (p:ah) (s:State) (b n:Int):Option (aM Int (Ex Unit Bool)):=
 (jr p s).bind fun r_1=>
 (bif gB [((!r_1),false)]then jy p s b ([]:List Short)else some default).bind fun r_2=>
 bn (gB [((!r_1),false)]=true→5≠(0:Int)) (
 bif (bif (!r_1)then true else(!r_2))then
 some (.done (.ret false))
 else
 some (.next (IntKind.wrap .i64 (n+1))))
theorem WQ {p:ah} {s:State} {b n:Int} (hp:Small p) (hr:RG s) (ht: ∀x∈p.links,x.trip.length≤8796093021952):smA p s b n=some (.next (IntKind.wrap .i64 (n+1))):=by
 unfold smA
 rw [GY p s hp hr ht,Option.bind_some,GX p s b [] hp]
 rfl
def EL (n:Int) (k:Nat):Bool:=decide ((IntKind.wrap .i64 (((BitVec.ofInt (IntKind.bits .i64) (Int.fdiv n (2 ^ min k (IntKind.bits .i64))) &&& BitVec.ofInt (IntKind.bits .i64) 1).toNat:Int)))=1)
def smP (n:Int):ah:=⟨3,[⟨0,1,500,0,20⟩,⟨2,2,300,0,40⟩],[⟨0,1,3,400,10,[]⟩,⟨1,2,3,400,10,[]⟩],[⟨⟨1, -1⟩,100,1⟩,⟨⟨1,2⟩,350,1⟩,⟨⟨1, -1⟩,IntKind.wrap .i64 ((1:Int)+(Int.tmod n 700)),1⟩]⟩
def smS (n:Int):State:=⟨[EL n 0,EL n 1],[false,false],[EL n 2,false],[EL n 3,EL n 4],[EL n 5,false],[false,false,false],[EL n 6,EL n 7,EL n 8]⟩
theorem agO (n:Int) (h:decide (n<512)=true):iy n=smA (smP n) (smS n) (IntKind.wrap .i64 ((Int.tmod n 5) - 1)) n:=by
 unfold iy
 rw [h]
 kernel_rfl
theorem SC (n:Nat) (h:n<512):iy (n:Int)=some (.next ((n+1:Nat):Int)):=by
 rw [agO n (decide_eq_true (by omega)),WQ ⟨by show 2≤_;omega,by show 2≤_;omega,by show 3≤_;omega, ?_⟩ ⟨by show 2≤_;omega,by show 2≤_;omega,by show 2≤_;omega,by show 2≤_;omega,by show 2≤_;omega,by show 3≤_;omega,by show 3≤_;omega⟩ ?_]
 ·rw [wr (by omega)];rfl
 ·intro x hx
  simp only [smP,List.mem_cons,List.not_mem_nil,or_false]at hx
  rcases hx with rfl|rfl<;>simp
 ·intro x hx
  simp only [smP,List.mem_cons,List.not_mem_nil,or_false]at hx
  rcases hx with rfl|rfl<;>simp
def Vy (n1:Int):Option (ah × State):=
 Option.bind (ay (nR n1) FUEL (([]:List Source),0)) fun o=>match o with
 | .ret v=>none
 | .brk p11=>
 Option.bind (ay (nM n1) FUEL (([]:List Link),0)) fun o=>match o with
 | .ret v=>none
 | .brk p21=>
 Option.bind (ay nI FUEL (p21,0)) fun o=>match o with
 | .ret v=>none
 | .brk p23=>
 Option.bind (ay (nA n1) FUEL (([]:List aC),0)) fun o=>match o with
 | .ret v=>none
 | .brk p31=>
 (pX (⟨24,p11,p23,p31⟩:ah)).bind fun r_4=>
 bif (!decide (r_4.2=0))then none else
 Option.bind (ay (nu n1) FUEL (r_4.1.on_,0)) fun o=>match o with
 | .ret v=>none
 | .brk s31=>some (⟨24,p11,p23,p31⟩,⟨r_4.1.closed,r_4.1.locked,r_4.1.badLink,s31,r_4.1.badSource,r_4.1.earthed,r_4.1.badBus⟩)
def smB (p:ah) (s:State) (n1:Int):Option (aM Int (Ex Unit Bool)):=
 (bN p s).bind fun r_5=>
 (bif gB [((!decide (r_5.2.2=0)),false)]then lV p s r_5.1 r_5.2.1 else some default).bind fun r_6=>
 bif (bif (!decide (r_5.2.2=0))then true else(!decide (r_6=0)))then
 some (.done (.ret false))
 else
 some (.next (IntKind.wrap .i64 (n1+1)))
theorem agn (n1:Int) (h:decide (n1<6)=true) {p:ah} {s:State} (hg:Vy n1=some (p,s)):iC n1=smB p s n1:=by
 unfold iC
 rw [h,cond_true]
 unfold Vy at hg
 cases e1:ay (nR n1) FUEL (([]:List Source),0)with
 |none=>rw [e1]at hg;cases hg
 |some o1=>cases o1 with
  |ret v=>rw [e1]at hg;cases hg
  |brk p11=>
   rw [e1]at hg
   simp only [Option.bind_some]at hg ⊢
   cases e2:ay (nM n1) FUEL (([]:List Link),0)with
   |none=>rw [e2]at hg;cases hg
   |some o2=>cases o2 with
    |ret v=>rw [e2]at hg;cases hg
    |brk p21=>
     rw [e2]at hg
     simp only [Option.bind_some]at hg ⊢
     cases e3:ay nI FUEL (p21,0)with
     |none=>rw [e3]at hg;cases hg
     |some o3=>cases o3 with
      |ret v=>rw [e3]at hg;cases hg
      |brk p23=>
       rw [e3]at hg
       simp only [Option.bind_some]at hg ⊢
       cases e4:ay (nA n1) FUEL (([]:List aC),0)with
       |none=>rw [e4]at hg;cases hg
       |some o4=>cases o4 with
        |ret v=>rw [e4]at hg;cases hg
        |brk p31=>
         rw [e4]at hg
         simp only [Option.bind_some]at hg ⊢
         cases e5:pX (⟨24,p11,p23,p31⟩:ah)with
         |none=>rw [e5]at hg;cases hg
         |some r_4=>
          rw [e5]at hg
          simp only [Option.bind_some]at hg ⊢
          cases e6:decide (r_4.2=0)with
          |false=>rw [e6]at hg;cases hg
          |true=>
           rw [e6]at hg
           simp only [Bool.not_true,cond_false]at hg ⊢
           cases e7:ay (nu n1) FUEL (r_4.1.on_,0)with
           |none=>rw [e7]at hg;cases hg
           |some o7=>cases o7 with
            |ret v=>rw [e7]at hg;cases hg
            |brk s31=>
             rw [e7]at hg
             simp only [Option.bind_some]at hg ⊢
             cases hg
             rfl
def J8 (p:ah) (s:State):Bool:=decide (p.sources.length≤100) && decide (p.links.length≤100) && decide (p.racks.length≤100) && p.links.all (fun x=>decide (x.trip.length≤100)) && decide (iB p s=0)
theorem V6 {p:ah} {s:State} (h:J8 p s=true) (n1:Int):smB p s n1=some (.next (IntKind.wrap .i64 (n1+1))):=by
 unfold J8 at h
 simp only [Bool.and_eq_true,decide_eq_true_eq,List.all_eq_true]at h
 obtain⟨⟨⟨⟨h1,h2⟩,h3⟩,h4⟩,h5⟩:=h
 have hsm:Small p:=⟨by omega,by omega,by omega,fun x hx=>by have:=h4 x hx;omega⟩
 obtain⟨hv,hs⟩:=eD.mp h5
 obtain⟨x,cut,e,hx⟩:=OV hv hs
 have hc:=hx.cert hv hs
 have hl:x.racks.length≤1000000:=by rw [hx.ps.l3];omega
 rw [Jr hsm s x hl]at hc
 unfold smB
 rw [e,Option.bind_some]
 dsimp only
 rw [J9 hsm s x hl,hc]
 rfl
theorem ags:(Vy ((0:Nat):Int)).any (fun x=>J8 x.1 x.2)=true:=by kernel_rfl
theorem agI:(Vy ((1:Nat):Int)).any (fun x=>J8 x.1 x.2)=true:=by kernel_rfl
theorem agJ:(Vy ((2:Nat):Int)).any (fun x=>J8 x.1 x.2)=true:=by kernel_rfl
theorem agw:(Vy ((3:Nat):Int)).any (fun x=>J8 x.1 x.2)=true:=by kernel_rfl
theorem agD:(Vy ((4:Nat):Int)).any (fun x=>J8 x.1 x.2)=true:=by kernel_rfl
theorem agq:(Vy ((5:Nat):Int)).any (fun x=>J8 x.1 x.2)=true:=by kernel_rfl
theorem aaH (n:Nat) (h:n<6): ∃p s,Vy (n:Int)=some (p,s)∧J8 p s=true:=by
 have key: ∀n:Nat,n<6→(Vy (n:Int)).any (fun x=>J8 x.1 x.2)=true:=fun n hn=>
  match n,hn with
  |0,_=>ags
  |1,_=>agI
  |2,_=>agJ
  |3,_=>agw
  |4,_=>agD
  |5,_=>agq
  |n+6,h=>absurd h (by omega)
 have hk:=key n h
 cases hg:Vy (n:Int)with
 |none=>rw [hg]at hk;cases hk
 |some x=>rw [hg]at hk;exact⟨x.1,x.2,rfl,hk⟩
theorem Si (n:Nat) (h:n<6):iC (n:Int)=some (.next ((n+1:Nat):Int)):=by
 obtain⟨p,s,hg,ho⟩:=aaH n h
 rw [agn n (decide_eq_true (by omega)) hg,V6 ho,wr (by omega)];rfl
theorem IB:mQ=some true:=by
 unfold mQ
 have e0:ay iy FUEL 0=some (.brk ()):=aY (fun i=>(i:Int)) 512 (.brk ()) (fuel_lt (by omega)) (fun i hi=>SC i hi) (by kernel_rfl)
 have e1:ay iC FUEL 0=some (.brk ()):=aY (fun i=>(i:Int)) 6 (.brk ()) (fuel_lt (by omega)) (fun i hi=>Si i hi) (by kernel_rfl)
 rw [e0,e1,wZ];rfl
end Sg
