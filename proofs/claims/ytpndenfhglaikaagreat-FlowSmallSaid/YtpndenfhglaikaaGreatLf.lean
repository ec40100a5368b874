import Derived.Test.YtpndenfhglaikaaGreatLe
set_option linter.all false
namespace Sg
open Go
def Pr (a:List bg) (j:Nat) (u v:Nat) (t k:Int):Prop:=at' a (2*j)=⟨(v:Int),t⟩∧at' a (2*j+1)=⟨(u:Int),k⟩
theorem wP {α:Type} [Inhabited α] {l x:List α} {i:Nat} (h:i<l.length):at' (l++x) i=at' l i:=by
 rw [eu (by rw [List.length_append];omega),eu h,List.getElem_append_left h]
theorem zK {α:Type} [Inhabited α] {l x:List α} {i:Nat} (h:i<x.length):at' (l++x) (l.length+i)=at' x i:=by
 rw [eu (by rw [List.length_append];omega),eu h,List.getElem_append_right (by omega)]
 congr 1;omega
theorem Pr.app {a x:List bg} {j u v:Nat} {t k:Int} (h:Pr a j u v t k) (hl:2*j+1<a.length):Pr (a++x) j u v t k:=⟨(wP (by omega)).trans h.1,(wP hl).trans h.2⟩
theorem LW {n m:Nat} {a:List bg} {fr:List (List Int)} (hN:NW n m a fr) {u v:Nat} {t k:Int} (hu:u<n) (hv:v<n) (huv:u≠v) (ht:0≤t) (hk:0≤k) (htk:t+k≤1000000) (hm:m+1≤1000):
  ∃fr',dW (u:Int) (v:Int) t k ⟨a,fr⟩=some (((2*m:Nat):Int),⟨a++[⟨(v:Int),t⟩,⟨(u:Int),k⟩],fr'⟩)∧NW n (m+1) (a++[⟨(v:Int),t⟩,⟨(u:Int),k⟩]) fr'∧Pr (a++[⟨(v:Int),t⟩,⟨(u:Int),k⟩]) m u v t k:=by
 have hlen:=hN.len
 have hfl:=hN.frl
 have hfu:=hN.frn u hu
 have hfv:=hN.frn v hv
 have hb: ∀i,i<2*m→at' (a++[⟨(v:Int),t⟩,⟨(u:Int),k⟩]) i=at' a i:=fun i hi=>wP (by omega)
 have hb0:at' (a++[⟨(v:Int),t⟩,⟨(u:Int),k⟩]) (2*m)=⟨(v:Int),t⟩:=by rw [←hlen];exact zK (i:=0) (by simp)
 have hb1:at' (a++[⟨(v:Int),t⟩,⟨(u:Int),k⟩]) (2*m+1)=⟨(u:Int),k⟩:=by rw [←hlen];exact zK (i:=1) (by simp)
 have e1:at' (fr.set u (at' fr u++[((2*m:Nat):Int)])) v=at' fr v:=cO huv
 refine⟨(fr.set u (at' fr u++[((2*m:Nat):Int)])).set v (at' fr v++[((2*m+1:Nat):Int)]), ?_, ?_,hb0,hb1⟩
 ·unfold dW
  dsimp only
  simp only [List.length_cons,List.length_nil]
  rw [Int.toNat_natCast,Int.toNat_natCast,ai ⟨by omega,by omega⟩,ai ⟨by omega,by omega,by omega⟩,hlen,e1,ai ⟨by rw [List.length_set];omega,by omega,by omega⟩,wr (x:=((2*m:Nat):Int)+1) (by omega),mI]
 ·have hfr: ∀w,at' ((fr.set u (at' fr u++[((2*m:Nat):Int)])).set v (at' fr v++[((2*m+1:Nat):Int)])) w=if w=v then at' fr v++[((2*m+1:Nat):Int)]else if w=u then at' fr u++[((2*m:Nat):Int)]else at' fr w:=fun w=>by
   by_cases h1:v=w
   ·subst h1;rw [dB (by rw [List.length_set];omega),if_pos rfl]
   ·rw [cO h1,if_neg (Ne.symm h1)]
    by_cases h2:u=w
    ·subst h2;rw [dB (by omega),if_pos rfl]
    ·rw [cO h2,if_neg (Ne.symm h2)]
  have tg: ∀i,i<2*m→tgt (a++[⟨(v:Int),t⟩,⟨(u:Int),k⟩]) i=tgt a i:=fun i hi=>by unfold tgt;rw [hb i hi]
  have tg0:tgt (a++[⟨(v:Int),t⟩,⟨(u:Int),k⟩]) (2*m)=v:=by unfold tgt;rw [hb0];rfl
  have tg1:tgt (a++[⟨(v:Int),t⟩,⟨(u:Int),k⟩]) (2*m+1)=u:=by unfold tgt;rw [hb1];rfl
  have t0:tw (2*m)=2*m+1:=by unfold tw;rw [if_pos (by omega)]
  have t1:tw (2*m+1)=2*m:=by unfold tw;rw [if_neg (by omega)];omega
  have cs: ∀i,i<2*(m+1)→i<2*m∨i=2*m∨i=2*m+1:=fun i hi=>by omega
  refine⟨hN.n1,hm,by simp;omega,fun i hi=> ?_,fun i hi=> ?_,by simp [hfl],fun w hw x hx=> ?_,fun i hi=> ?_,fun w hw=> ?_⟩
  ·rcases cs i hi with h|rfl|rfl
   ·rw [hb i h];exact hN.to i h
   ·rw [hb0];show 0≤(v:Int)∧(v:Int)<n;omega
   ·rw [hb1];show 0≤(u:Int)∧(u:Int)<n;omega
  ·unfold iW
   rcases cs i hi with h|rfl|rfl
   ·rw [hb i h,hb _ (EG h)];exact hN.left i h
   ·rw [t0,hb0,hb1];exact⟨ht,htk⟩
   ·rw [t1,hb0,hb1];exact⟨hk,by show k+t≤_;omega⟩
  ·rw [hfr]at hx
   have old: ∀w,w<n→ ∀x∈at' fr w,∃i:Nat,x=(i:Int)∧i<2*(m+1)∧tgt (a++[⟨(v:Int),t⟩,⟨(u:Int),k⟩]) (tw i)=w:=fun w hw x hx=>by
    obtain⟨i,h1,h2,h3⟩:=hN.fr1 w hw x hx
    exact⟨i,h1,by omega,by rw [tg _ (EG h2)];exact h3⟩
   split at hx
   ·rename_i e;subst e
    rw [List.mem_append,List.mem_singleton]at hx
    rcases hx with hx|rfl
    ·exact old _ hw x hx
    ·exact⟨_,rfl,by omega,by rw [t1];exact tg0⟩
   ·split at hx
    ·rename_i e;subst e
     rw [List.mem_append,List.mem_singleton]at hx
     rcases hx with hx|rfl
     ·exact old _ hw x hx
     ·exact⟨_,rfl,by omega,by rw [t0];exact tg1⟩
    ·exact old _ hw x hx
  ·rw [hfr]
   rcases cs i hi with h|rfl|rfl
   ·rw [tg _ (EG h)]
    have:=hN.fr2 i h
    split
    ·rename_i e;rw [e]at this;exact List.mem_append_left _ this
    ·split
     ·rename_i e;rw [e]at this;exact List.mem_append_left _ this
     ·exact this
   ·rw [t0,tg1,if_neg huv,if_pos rfl];exact List.mem_append_right _ (List.mem_singleton_self _)
   ·rw [t1,tg0,if_pos rfl];exact List.mem_append_right _ (List.mem_singleton_self _)
  ·rw [hfr]
   have:=hN.frn w hw
   split
   ·rw [List.length_append,List.length_singleton];omega
   ·split
    ·rw [List.length_append,List.length_singleton];omega
    ·omega
theorem NW.nil {n:Nat} (h:1≤n∧n≤1000):NW n 0 [] (List.replicate n []):=by
 refine⟨h,by omega,rfl,fun i hi=>by omega,fun i hi=>by omega,by simp,fun v hv x hx=> ?_,fun i hi=>by omega,fun v hv=> ?_⟩
 ·rw [dm hv]at hx;cases hx
 ·rw [dm hv];simp
def lC (f:Nat→Bool):Nat→Nat
 |0=>0
 |k+1=>lC f k+(if f k=true then 1 else 0)
theorem EC (f:Nat→Bool) (k:Nat):lC f (k+1)=lC f k+(if f k=true then 1 else 0):=rfl
theorem M6 (f:Nat→Bool) (k:Nat):lC f k≤k:=by
 induction k with
 |zero=>exact Nat.le_refl _
 |succ k ih=>rw [EC];split<;>omega
theorem U1 (f:Nat→Bool) {j k:Nat} (h:j≤k):lC f j≤lC f k:=by
 induction k with
 |zero=>
  have:j=0:=by omega
  subst this;exact Nat.le_refl _
 |succ k ih=>
  by_cases e:j=k+1
  ·subst e;exact Nat.le_refl _
  ·have:=ih (by omega);rw [EC];split<;>omega
theorem zB {f:Nat→Bool} {j k:Nat} (h:j<k) (hf:f j=true):lC f j<lC f k:=by
 have h1:lC f (j+1)=lC f j+1:=by show lC f j+_=_;rw [if_pos hf]
 have:=U1 f (show j+1≤k by omega)
 omega
theorem MS (f:Nat→Bool) (g:Nat→Int) (o:Nat): ∀k,aU (o+lC f k) g=aU o g+aU k fun i=>if f i=true then g (o+lC f i)else 0
 |0=>by simp [lC,aU]
 |k+1=>by
  have ih:=MS f g o k
  rw [EC,aU]
  cases hf:f k with
  |true=>rw [if_pos rfl,if_pos rfl,show o+(lC f k+1)=(o+lC f k)+1 by omega,aU,ih];omega
  |false=>rw [if_neg (by simp),if_neg (by simp),Nat.add_zero,ih];omega
def KO (f:Nat→Bool) (o:Nat):Nat→List (Int × Int)
 |0=>[]
 |k+1=>KO f o k++(if f k=true then [((k:Int),((2*(o+lC f k):Nat):Int))]else [])
theorem EU {f:Nat→Bool} {o:Nat}: ∀{k:Nat} {e:Int × Int},e∈KO f o k↔ ∃i,i<k∧f i=true∧e=((i:Int),((2*(o+lC f i):Nat):Int))
 |0,e=>by simp [KO]
 |k+1,e=>by
  unfold KO
  rw [List.mem_append,EU]
  constructor
  ·rintro (⟨i,h1,h2,h3⟩|h)
   ·exact⟨i,by omega,h2,h3⟩
   ·split at h
    ·rename_i hf;rw [List.mem_singleton]at h;exact⟨k,by omega,hf,h⟩
    ·cases h
  ·rintro ⟨i,h1,h2,h3⟩
   by_cases e1:i=k
   ·subst e1;right;rw [if_pos h2,List.mem_singleton];exact h3
   ·exact .inl ⟨i,by omega,h2,h3⟩
theorem ED {κ α:Type} {eq:κ→κ→Bool} {k:κ} {v:α}: ∀{l:List (κ × α)},(∀e∈l,eq k e.1=false)→gJ eq k v l=l++[(k,v)]
 |[],_=>rfl
 |(k',v')::l,h=>by
  have h1:=h (k',v') List.mem_cons_self
  unfold gJ
  rw [h1,cond_false,ED fun e he=>h e (List.mem_cons_of_mem _ he)];rfl
section
variable {p:ah} {s:State} (hp:VP p) (hs:VS p s)
include hp hs
def nodes (p:ah):Nat:=2+p.buses.toNat+p.racks.length
theorem VN: ∃a fr,ay (iJ p s) FUEL ([],List.replicate (nodes p) [],[],0)=some (.brk (p.sources,a,fr,List.replicate p.sources.length 0,KO (bC p s) 0 p.sources.length))∧NW (nodes p) (lC (bC p s) p.sources.length) a fr∧
  ∀k,k<p.sources.length→bC p s k=true→Pr a (lC (bC p s) k) 0 (1+(at' p.sources k).bus.toNat) (at' p.sources k).power 0:=by
 have hsl:=hp.sl;have hrl:=hp.rl;have hb:=hp.b
 have key:=uD (body:=iJ p s)
  (fun z:List bg × List (List Int) × List (Int × Int) × Int=> ∃k:Nat,z.2.2.2=(k:Int)∧k≤p.sources.length∧NW (nodes p) (lC (bC p s) k) z.1 z.2.1∧z.2.2.1=KO (bC p s) 0 k∧ ∀j,j<k→bC p s j=true→Pr z.1 (lC (bC p s) j) 0 (1+(at' p.sources j).bus.toNat) (at' p.sources j).power 0)
  (fun z=>p.sources.length - z.2.2.2.toNat)
  (fun r=> ∃a fr,r= .brk (p.sources,a,fr,List.replicate p.sources.length 0,KO (bC p s) 0 p.sources.length)∧NW (nodes p) (lC (bC p s) p.sources.length) a fr∧ ∀k,k<p.sources.length→bC p s k=true→Pr a (lC (bC p s) k) 0 (1+(at' p.sources k).bus.toNat) (at' p.sources k).power 0)
  (fun z hI=> ?_)
 ·obtain⟨r,e,a,fr,rfl,h⟩:=key FUEL ([],List.replicate (nodes p) [],[],0) ⟨0,rfl,by omega,NW.nil (by unfold nodes;omega),rfl,fun j hj=>by omega⟩ (by show p.sources.length - _<FUEL;unfold FUEL;omega)
  exact⟨a,fr,e,h⟩
 ·obtain⟨a,fr,mp,t⟩:=z
  obtain⟨k,rfl,hk,hN,hm,hP⟩:=hI
  dsimp only at hN hm hP ⊢
  subst hm
  unfold iJ
  dsimp only
  by_cases hk2:k<p.sources.length
  ·left
   have hv:=hp.src k hk2;have hbus:=hv.bus;have hw:=hv.power
   have hcl:=M6 (bC p s) k
   rw [wo (by omega),cond_true,ai (by omega),rU hp hs hk2,Option.bind_some,Int.toNat_natCast,wr (x:=(k:Int)+1) (by omega)]
   have h1:lC (bC p s) (k+1)=lC (bC p s) k+(if bC p s k=true then 1 else 0):=rfl
   have hm1:KO (bC p s) 0 (k+1)=KO (bC p s) 0 k++(if bC p s k=true then [((k:Int),((2*(0+lC (bC p s) k):Nat):Int))]else []):=rfl
   cases hf:bC p s k with
   |false=>
    rw [hf,if_neg (by simp)]at h1 hm1
    rw [cond_false]
    refine⟨_,rfl,⟨k+1,by simp,by omega,by rw [h1];exact hN,by rw [hm1,List.append_nil],fun j hj hfj=> ?_⟩, ?_⟩
    ·by_cases e:j=k
     ·subst e;rw [hf]at hfj;cases hfj
     ·exact hP j (by omega) hfj
    ·show p.sources.length - ((k:Int)+1).toNat<p.sources.length - (k:Int).toNat
     omega
   |true=>
    rw [hf,if_pos rfl]at h1 hm1
    have e1:IntKind.wrap .i64 (1+(at' p.sources k).bus)=((1+(at' p.sources k).bus.toNat:Nat):Int):=by rw [wr (by omega)];omega
    obtain⟨fr',g1,g2,g3⟩:=LW hN (u:=0) (v:=1+(at' p.sources k).bus.toNat) (t:=(at' p.sources k).power) (k:=0) (by unfold nodes;omega) (by unfold nodes;omega) (by omega) (by omega) (by omega) (by omega) (by omega)
    rw [cond_true,e1]
    have g1':dW 0 ((1+(at' p.sources k).bus.toNat:Nat):Int) (at' p.sources k).power 0 ⟨a,fr⟩=_:=g1
    rw [g1',Option.bind_some]
    refine⟨_,rfl,⟨k+1,by simp,by omega,by rw [h1];exact g2, ?_,fun j hj hfj=> ?_⟩, ?_⟩
    ·rw [hm1]
     rw [Nat.zero_add]
     exact ED fun e he=>by
      obtain⟨i,h1,h2,rfl⟩:=EU.1 he
      exact Xg (by show(k:Int)≠(i:Int);omega)
    ·by_cases e:j=k
     ·subst e;exact g3
     ·refine(hP j (by omega) hfj).app ?_
      have:=zB (show j<k by omega) hfj
      rw [hN.len];omega
    ·show p.sources.length - ((k:Int)+1).toNat<p.sources.length - (k:Int).toNat
     omega
  ·right
   have:k=p.sources.length:=by omega
   subst this
   rw [Jq (by omega),cond_false,Int.toNat_natCast]
   exact⟨_,rfl,a,fr,rfl,hN,hP⟩
end
def Kp (m:Nat) (a b:List bg):Prop:= ∀j u v t k,j<m→Pr a j u v t k→Pr b j u v t k
def UF (p:ah) (s:State) (r:Nat):Nat:=1+(if iN s (at' p.racks r).feeds.e0=true then 1 else 0)+(if iN s (at' p.racks r).feeds.e1=true then 1 else 0)
def sH (p:ah) (s:State):Nat→Nat
 |0=>0
 |k+1=>sH p s k+UF p s k
theorem AP (p:ah) (s:State) (k:Nat):sH p s (k+1)=sH p s k+UF p s k:=rfl
theorem Qr (p:ah) (s:State) (r:Nat):1≤UF p s r∧UF p s r≤3:=by unfold UF;split<;>split<;>omega
theorem VD (p:ah) (s:State) (k:Nat):sH p s k≤3*k:=by
 induction k with
 |zero=>exact Nat.le_refl _
 |succ k ih=>rw [AP];have:=Qr p s k;omega
theorem Mq {p:ah} {s:State} {j k:Nat} (h:j<k):sH p s j+UF p s j≤sH p s k:=by
 induction k with
 |zero=>omega
 |succ k ih=>
  rw [AP]
  by_cases e:j=k
  ·subst e;exact Nat.le_refl _
  ·have:=ih (by omega);omega
def mW (p:ah) (s:State) (o r:Nat) (c:Bool):Nat:=o+sH p s r+1+(if c=true∧iN s (at' p.racks r).feeds.e0=true then 1 else 0)
def Oz (p:ah) (s:State) (o r:Nat):List (af × Int):=if iN s (at' p.racks r).feeds.e0=true then [(⟨(r:Int),0⟩,((2*mW p s o r false:Nat):Int))]else []
def aaK (p:ah) (s:State) (o r:Nat):List (af × Int):=if iN s (at' p.racks r).feeds.e1=true then [(⟨(r:Int),1⟩,((2*mW p s o r true:Nat):Int))]else []
def JY (p:ah) (s:State) (o:Nat):Nat→List (af × Int)
 |0=>[]
 |k+1=>JY p s o k++Oz p s o k++aaK p s o k
theorem BG {p:ah} {s:State} {o:Nat}: ∀{k:Nat} {e:af × Int},e∈JY p s o k↔ ∃r,r<k∧((iN s (at' p.racks r).feeds.e0=true∧e=(⟨(r:Int),0⟩,((2*mW p s o r false:Nat):Int)))∨(iN s (at' p.racks r).feeds.e1=true∧e=(⟨(r:Int),1⟩,((2*mW p s o r true:Nat):Int))))
 |0,e=>by simp [JY]
 |k+1,e=>by
  unfold JY
  rw [List.mem_append,List.mem_append,BG]
  constructor
  ·rintro ((⟨i,h1,h2⟩|h)|h)
   ·exact⟨i,by omega,h2⟩
   ·unfold Oz at h
    split at h
    ·rename_i hf;rw [List.mem_singleton]at h;exact⟨k,by omega, .inl ⟨hf,h⟩⟩
    ·cases h
   ·unfold aaK at h
    split at h
    ·rename_i hf;rw [List.mem_singleton]at h;exact⟨k,by omega, .inr ⟨hf,h⟩⟩
    ·cases h
  ·rintro ⟨i,h1,h2⟩
   by_cases e1:i=k
   ·subst e1
    rcases h2 with⟨hf,h⟩|⟨hf,h⟩
    ·left;right;unfold Oz;rw [if_pos hf,List.mem_singleton];exact h
    ·right;unfold aaK;rw [if_pos hf,List.mem_singleton];exact h
   ·exact .inl (.inl ⟨i,by omega,h2⟩)
section
variable {p:ah} {s:State} (hp:VP p) (hs:VS p s)
include hp hs
theorem UR {m0:Nat} {a0:List bg} {fr0:List (List Int)} (hN0:NW (nodes p) m0 a0 fr0) (hm0:m0≤8): ∃a fr,ay (iI p s p.sources) FUEL (a0,fr0,[],0)=some (.brk (p.links,a,fr,List.replicate p.links.length 0,KO (aN p s) m0 p.links.length))∧NW (nodes p) (m0+lC (aN p s) p.links.length) a fr∧Kp m0 a0 a∧
  ∀k,k<p.links.length→aN p s k=true→Pr a (m0+lC (aN p s) k) (1+(at' p.links k).a.toNat) (1+(at' p.links k).b.toNat) (at' p.links k).most (at' p.links k).most:=by
 have hsl:=hp.ll;have hrl:=hp.rl;have hb:=hp.b
 have key:=uD (body:=iI p s p.sources)
  (fun z:List bg × List (List Int) × List (Int × Int) × Int=> ∃k:Nat,z.2.2.2=(k:Int)∧k≤p.links.length∧NW (nodes p) (m0+lC (aN p s) k) z.1 z.2.1∧z.2.2.1=KO (aN p s) m0 k∧Kp m0 a0 z.1∧ ∀j,j<k→aN p s j=true→Pr z.1 (m0+lC (aN p s) j) (1+(at' p.links j).a.toNat) (1+(at' p.links j).b.toNat) (at' p.links j).most (at' p.links j).most)
  (fun z=>p.links.length - z.2.2.2.toNat)
  (fun r=> ∃a fr,r= .brk (p.links,a,fr,List.replicate p.links.length 0,KO (aN p s) m0 p.links.length)∧NW (nodes p) (m0+lC (aN p s) p.links.length) a fr∧Kp m0 a0 a∧ ∀k,k<p.links.length→aN p s k=true→Pr a (m0+lC (aN p s) k) (1+(at' p.links k).a.toNat) (1+(at' p.links k).b.toNat) (at' p.links k).most (at' p.links k).most)
  (fun z hI=> ?_)
 ·obtain⟨r,e,a,fr,rfl,h⟩:=key FUEL (a0,fr0,[],0) ⟨0,rfl,by omega,hN0,rfl,fun j u v t k _ h=>h,fun j hj=>by omega⟩ (by show p.links.length - _<FUEL;unfold FUEL;omega)
  exact⟨a,fr,e,h⟩
 ·obtain⟨a,fr,mp,t⟩:=z
  obtain⟨k,rfl,hk,hN,hm,hKp,hP⟩:=hI
  dsimp only at hN hm hKp hP ⊢
  subst hm
  unfold iI
  dsimp only
  by_cases hk2:k<p.links.length
  ·left
   have hv:=hp.lnk k hk2;have ha:=hv.a;have hbb:=hv.b;have hne:=hv.ab;have hw:=hv.most
   have hcl:=M6 (aN p s) k
   have hc:dI ⟨p.buses,p.sources,p.links,p.racks⟩ s (k:Int)=some (aN p s k):=uy hp hs hk2
   rw [wo (by omega),cond_true,ai (by omega),hc,Option.bind_some,Int.toNat_natCast,wr (x:=(k:Int)+1) (by omega)]
   have h1:lC (aN p s) (k+1)=lC (aN p s) k+(if aN p s k=true then 1 else 0):=rfl
   have hm1:KO (aN p s) m0 (k+1)=KO (aN p s) m0 k++(if aN p s k=true then [((k:Int),((2*(m0+lC (aN p s) k):Nat):Int))]else []):=rfl
   cases hf:aN p s k with
   |false=>
    rw [hf,if_neg (by simp)]at h1 hm1
    rw [cond_false]
    refine⟨_,rfl,⟨k+1,by simp,by omega,by rw [h1];exact hN,by rw [hm1,List.append_nil],hKp,fun j hj hfj=> ?_⟩, ?_⟩
    ·by_cases e:j=k
     ·subst e;rw [hf]at hfj;cases hfj
     ·exact hP j (by omega) hfj
    ·show p.links.length - ((k:Int)+1).toNat<p.links.length - (k:Int).toNat
     omega
   |true=>
    rw [hf,if_pos rfl]at h1 hm1
    have e1:IntKind.wrap .i64 (1+(at' p.links k).a)=((1+(at' p.links k).a.toNat:Nat):Int):=by rw [wr (by omega)];omega
    have e2:IntKind.wrap .i64 (1+(at' p.links k).b)=((1+(at' p.links k).b.toNat:Nat):Int):=by rw [wr (by omega)];omega
    obtain⟨fr',g1,g2,g3⟩:=LW hN (u:=1+(at' p.links k).a.toNat) (v:=1+(at' p.links k).b.toNat) (t:=(at' p.links k).most) (k:=(at' p.links k).most) (by unfold nodes;omega) (by unfold nodes;omega) (by omega) (by omega) (by omega) (by omega) (by omega)
    rw [cond_true,e1,e2,g1,Option.bind_some]
    refine⟨_,rfl,⟨k+1,by simp,by omega,by rw [h1];exact g2, ?_,fun j u v t k hj h=>(hKp j u v t k hj h).app (by rw [hN.len];omega),fun j hj hfj=> ?_⟩, ?_⟩
    ·rw [hm1]
     exact ED fun e he=>by
      obtain⟨i,h1,h2,rfl⟩:=EU.1 he
      exact Xg (by show(k:Int)≠(i:Int);omega)
    ·by_cases e:j=k
     ·subst e;exact g3
     ·refine(hP j (by omega) hfj).app ?_
      have:=zB (show j<k by omega) hfj
      rw [hN.len];omega
    ·show p.links.length - ((k:Int)+1).toNat<p.links.length - (k:Int).toNat
     omega
  ·right
   have:k=p.links.length:=by omega
   subst this
   rw [Jq (by omega),cond_false,Int.toNat_natCast]
   exact⟨_,rfl,a,fr,rfl,hN,hKp,hP⟩
theorem Jb {m:Nat} {a:List bg} {fr:List (List Int)} (hN:NW (nodes p) m a fr) (hm:m+1≤1000) {r:Nat} (hr:r<p.racks.length) (mp:List (af × Int)) {c:Nat} {b:Int} (hc:at' [(at' p.racks r).feeds.e0,(at' p.racks r).feeds.e1] c=b) (hc2:c<2) (hb1: -1≤b∧b<p.buses) (hnew: ∀e∈mp,e.1≠⟨(r:Int),(c:Int)⟩):
  ∃a' fr',eY p s p.racks (r:Int) (a,fr,mp,(c:Int))=some (.next (a',fr',mp++(if iN s b=true then [(⟨(r:Int),(c:Int)⟩,((2*m:Nat):Int))]else []),((c+1:Nat):Int)))∧NW (nodes p) (m+(if iN s b=true then 1 else 0)) a' fr'∧Kp m a a'∧(iN s b=true→Pr a' m (1+b.toNat) (1+p.buses.toNat+r) (at' p.racks r).power 0):=by
 have hrl:=hp.rl;have hb:=hp.b
 have hw:=(hp.rck r hr).power
 have h4:=hs.badBus
 have hf:iE s b=some (iN s b):=by
  unfold iE iN
  rw [ai (fun h=> ⟨of_decide_eq_true (gB1 h),by omega⟩)]
  cases decide (0≤b)<;>rfl
 unfold eY
 dsimp only
 rw [Int.toNat_natCast,Int.toNat_natCast,wo (by omega),cond_true,ai (by omega),hc,hf,Option.bind_some,wr (x:=(c:Int)+1) (by omega)]
 cases hfb:iN s b with
 |false=>
  refine⟨a,fr, ?_,hN,fun j u v t k _ h=>h,fun h=>by cases h⟩
  rw [if_neg (by simp),List.append_nil];rfl
 |true=>
  have hb0:0≤b:=by unfold iN at hfb;rw [Bool.and_eq_true,decide_eq_true_eq]at hfb;exact hfb.1
  have e1:IntKind.wrap .i64 (1+b)=((1+b.toNat:Nat):Int):=by rw [wr (by omega)];omega
  have e2:IntKind.wrap .i64 (IntKind.wrap .i64 (1+p.buses)+(r:Int))=((1+p.buses.toNat+r:Nat):Int):=by rw [wr (x:=1+p.buses) (by omega),wr (by omega)];omega
  obtain⟨fr',g1,g2,g3⟩:=LW hN (u:=1+b.toNat) (v:=1+p.buses.toNat+r) (t:=(at' p.racks r).power) (k:=0) (by unfold nodes;omega) (by unfold nodes;omega) (by omega) (by omega) (by omega) (by omega) hm
  refine⟨_,fr', ?_,g2,fun j u v t k hj h=>h.app (by rw [hN.len];omega),fun _=>g3⟩
  rw [cond_true,e1,e2,g1,Option.bind_some,if_pos rfl]
  rw [ED (fun e he=>by
   have:=hnew e he
   cases h1:(decide ((r:Int)=e.1.e0) && (decide ((c:Int)=e.1.e1) && true))with
   |false=>rfl
   |true=>
    rw [Bool.and_true,Bool.and_eq_true,decide_eq_true_eq,decide_eq_true_eq]at h1
    refine absurd ?_ this
    obtain⟨⟨x,y⟩,z⟩:=e
    obtain⟨rfl,rfl⟩:=h1;rfl)]
  rfl
theorem WN {m0:Nat} {a0:List bg} {fr0:List (List Int)} (hN0:NW (nodes p) m0 a0 fr0) (hm0:m0≤48) (x2:List af): ∃a fr,ay (iO p s) FUEL (p.racks,((1+p.buses.toNat+p.racks.length:Nat):Int),a0,fr0,x2,[],p.racks,(p.racks.length:Int),0)=some (.brk (p.racks,((1+p.buses.toNat+p.racks.length:Nat):Int),a,fr,x2,JY p s m0 p.racks.length))∧NW (nodes p) (m0+sH p s p.racks.length) a fr∧Kp m0 a0 a∧
  ∀r,r<p.racks.length→Pr a (m0+sH p s r) (1+p.buses.toNat+r) (1+p.buses.toNat+p.racks.length) (at' p.racks r).power 0∧(iN s (at' p.racks r).feeds.e0=true→Pr a (mW p s m0 r false) (1+(at' p.racks r).feeds.e0.toNat) (1+p.buses.toNat+r) (at' p.racks r).power 0)∧(iN s (at' p.racks r).feeds.e1=true→Pr a (mW p s m0 r true) (1+(at' p.racks r).feeds.e1.toNat) (1+p.buses.toNat+r) (at' p.racks r).power 0):=by
 have hrl:=hp.rl;have hb:=hp.b
 have key:=uD (body:=iO p s)
  (fun z:List aD × Int × List bg × List (List Int) × List af × List (af × Int) × List aD × Int × Int=> ∃k a fr,z=(p.racks,((1+p.buses.toNat+p.racks.length:Nat):Int),a,fr,x2,JY p s m0 k,p.racks,(p.racks.length:Int),(k:Int))∧k≤p.racks.length∧NW (nodes p) (m0+sH p s k) a fr∧Kp m0 a0 a∧ ∀r,r<k→Pr a (m0+sH p s r) (1+p.buses.toNat+r) (1+p.buses.toNat+p.racks.length) (at' p.racks r).power 0∧(iN s (at' p.racks r).feeds.e0=true→Pr a (mW p s m0 r false) (1+(at' p.racks r).feeds.e0.toNat) (1+p.buses.toNat+r) (at' p.racks r).power 0)∧(iN s (at' p.racks r).feeds.e1=true→Pr a (mW p s m0 r true) (1+(at' p.racks r).feeds.e1.toNat) (1+p.buses.toNat+r) (at' p.racks r).power 0))
  (fun z=>p.racks.length - z.2.2.2.2.2.2.2.2.toNat)
  (fun q=> ∃a fr,q= .brk (p.racks,((1+p.buses.toNat+p.racks.length:Nat):Int),a,fr,x2,JY p s m0 p.racks.length)∧NW (nodes p) (m0+sH p s p.racks.length) a fr∧Kp m0 a0 a∧ ∀r,r<p.racks.length→Pr a (m0+sH p s r) (1+p.buses.toNat+r) (1+p.buses.toNat+p.racks.length) (at' p.racks r).power 0∧(iN s (at' p.racks r).feeds.e0=true→Pr a (mW p s m0 r false) (1+(at' p.racks r).feeds.e0.toNat) (1+p.buses.toNat+r) (at' p.racks r).power 0)∧(iN s (at' p.racks r).feeds.e1=true→Pr a (mW p s m0 r true) (1+(at' p.racks r).feeds.e1.toNat) (1+p.buses.toNat+r) (at' p.racks r).power 0))
  (fun z hI=> ?_)
 ·obtain⟨r,e,a,fr,rfl,h⟩:=key FUEL (p.racks,((1+p.buses.toNat+p.racks.length:Nat):Int),a0,fr0,x2,[],p.racks,(p.racks.length:Int),0) ⟨0,a0,fr0,rfl,by omega,hN0,fun j u v t k _ h=>h,fun j hj=>by omega⟩ (by show p.racks.length - _<FUEL;unfold FUEL;omega)
  exact⟨a,fr,e,h⟩
 ·obtain⟨k,a,fr,rfl,hk,hN,hKp,hP⟩:=hI
  unfold iO
  dsimp only
  by_cases hk2:k<p.racks.length
  ·left
   have hv:=hp.rck k hk2;have ha:=hv.e0;have hbb:=hv.e1;have hne:=hv.ne;have hw:=hv.power
   have hcl:=VD p s k
   have e2:IntKind.wrap .i64 (IntKind.wrap .i64 (1+p.buses)+(k:Int))=((1+p.buses.toNat+k:Nat):Int):=by rw [wr (x:=1+p.buses) (by omega),wr (by omega)];omega
   obtain⟨fr1,g1,g2,g3⟩:=LW hN (u:=1+p.buses.toNat+k) (v:=1+p.buses.toNat+p.racks.length) (t:=(at' p.racks k).power) (k:=0) (by unfold nodes;omega) (by unfold nodes;omega) (by omega) (by omega) (by omega) (by omega) (by omega)
   generalize hA1:a++[⟨((1+p.buses.toNat+p.racks.length:Nat):Int),(at' p.racks k).power⟩,⟨((1+p.buses.toNat+k:Nat):Int),0⟩]=A1 at g1 g2 g3
   have kp1:Kp (m0+sH p s k) a A1:=fun j u v t k hj h=>by rw [←hA1];exact h.app (by rw [hN.len];omega)
   obtain⟨A2,fr2,f1,f2,f3,f4⟩:=Jb hp hs g2 (by omega) hk2 (JY p s m0 k) (c:=0) (b:=(at' p.racks k).feeds.e0) rfl (by omega) ⟨by omega,ha.2⟩ (fun e he q=>by
    obtain⟨i,h1,h2⟩:=BG.1 he
    rcases h2 with⟨_,rfl⟩|⟨_,rfl⟩
    ·have:(i:Int)=(k:Int):=congrArg af.e0 q
     omega
    ·have:(i:Int)=(k:Int):=congrArg af.e0 q
     omega)
   obtain⟨A3,fr3,d1,d2,d3,d4⟩:=Jb hp hs f2 (by split<;>omega) hk2 (JY p s m0 k++Oz p s m0 k) (c:=1) (b:=(at' p.racks k).feeds.e1) rfl (by omega) hbb (fun e he q=>by
    rw [List.mem_append]at he
    rcases he with he|he
    ·obtain⟨i,h1,h2⟩:=BG.1 he
     rcases h2 with⟨_,rfl⟩|⟨_,rfl⟩
     ·have:(i:Int)=(k:Int):=congrArg af.e0 q
      omega
     ·have:(i:Int)=(k:Int):=congrArg af.e0 q
      omega
    ·unfold Oz at he
     split at he
     ·rw [List.mem_singleton]at he
      subst he
      have:(0:Int)=1:=congrArg af.e1 q
      omega
     ·cases he)
   have i1:m0+sH p s k+1=mW p s m0 k false:=by unfold mW;rw [if_neg (by simp)]
   have i2:m0+sH p s k+1+(if iN s (at' p.racks k).feeds.e0=true then 1 else 0)=mW p s m0 k true:=by
    unfold mW
    cases iN s (at' p.racks k).feeds.e0<;>simp
   have hm1:JY p s m0 k++(if iN s (at' p.racks k).feeds.e0=true then [((⟨(k:Int),((0:Nat):Int)⟩:af),((2*(m0+sH p s k+1):Nat):Int))]else [])=JY p s m0 k++Oz p s m0 k:=by rw [i1];rfl
   have hm2:JY p s m0 k++Oz p s m0 k++(if iN s (at' p.racks k).feeds.e1=true then [((⟨(k:Int),((1:Nat):Int)⟩:af),((2*(m0+sH p s k+1+(if iN s (at' p.racks k).feeds.e0=true then 1 else 0)):Nat):Int))]else [])=JY p s m0 (k+1):=by rw [i2];rfl
   rw [hm1]at f1
   rw [hm2]at d1
   have hN3:NW (nodes p) (m0+sH p s (k+1)) A3 fr3:=by
    have:m0+sH p s (k+1)=m0+sH p s k+1+(if iN s (at' p.racks k).feeds.e0=true then 1 else 0)+(if iN s (at' p.racks k).feeds.e1=true then 1 else 0):=by rw [AP];unfold UF;omega
    rw [this];exact d2
   have L3:ay (eY p s p.racks (k:Int)) FUEL (A1,fr1,JY p s m0 k,0)=some (.brk (A3,fr3,JY p s m0 (k+1))):=by
    refine gQ (n:=3) ?_ (by unfold FUEL;omega)
    have f1':eY p s p.racks (k:Int) (A1,fr1,JY p s m0 k,0)=_:=f1
    rw [aS,f1']
    show ay _ 2 (A2,fr2,JY p s m0 k++Oz p s m0 k,((1:Nat):Int))=_
    rw [aS,d1]
    show ay _ 1 (A3,fr3,JY p s m0 (k+1),((2:Nat):Int))=_
    rw [aS]
    unfold eY
    rfl
   rw [wo (by omega),cond_true,ai (by omega),e2,Int.toNat_natCast,g1,Option.bind_some]
   dsimp only
   rw [L3,Option.bind_some,wr (x:=(k:Int)+1) (by omega)]
   refine⟨_,rfl,⟨k+1,A3,fr3,by simp,by omega,hN3,fun j u v t c hj h=>d3 j u v t c (by split<;>omega) (f3 j u v t c (by omega) (kp1 j u v t c (by omega) (hKp j u v t c hj h))),fun r hr=> ?_⟩, ?_⟩
   ·by_cases e:r=k
    ·subst e
     refine⟨d3 _ _ _ _ _ (by split<;>omega) (f3 _ _ _ _ _ (by omega) g3),fun h=>d3 _ _ _ _ _ (by rw [if_pos h,←i1];omega) (by rw [←i1];exact f4 h),fun h=>by rw [←i2];exact d4 h⟩
    ·have hlt:=Mq (p:=p) (s:=s) (show r<k by omega)
     have hwd:=Qr p s r
     obtain⟨q1,q2,q3⟩:=hP r (by omega)
     have up: ∀j u v t c,j<m0+sH p s k→Pr a j u v t c→Pr A3 j u v t c:=fun j u v t c hj h=>d3 j u v t c (by split<;>omega) (f3 j u v t c (by omega) (kp1 j u v t c hj h))
     have hwd2:UF p s r=1+(if iN s (at' p.racks r).feeds.e0=true then 1 else 0)+(if iN s (at' p.racks r).feeds.e1=true then 1 else 0):=rfl
     refine⟨up _ _ _ _ _ (by omega) q1,fun h=>up _ _ _ _ _ ?_ (q2 h),fun h=>up _ _ _ _ _ ?_ (q3 h)⟩
     ·unfold mW;rw [if_pos h]at hwd2;rw [if_neg (by simp)];omega
     ·unfold mW;rw [if_pos h]at hwd2
      cases hx:iN s (at' p.racks r).feeds.e0<;>rw [hx]at hwd2<;>simp at hwd2 ⊢ <;>omega
   ·show p.racks.length - ((k:Int)+1).toNat<p.racks.length - (k:Int).toNat
    omega
  ·right
   have:k=p.racks.length:=by omega
   subst this
   rw [Jq (by omega),cond_false]
   exact⟨_,rfl,a,fr,rfl,hN,hKp,hP⟩
end
theorem Gj {σ:Type} [DecidableEq σ] {r:σ}: ∀{l:List (Option σ)},l≠[]→(∀x∈l,x=some r)→y7 l=some r
 |[],h,_=>absurd rfl h
 |[a],_,h=>h a (List.mem_singleton_self a)
 |a::b::l,_,h=>by
  unfold y7
  have:=Gj (l:=b::l) (by simp) fun x hx=>h x (List.mem_cons_of_mem _ hx)
  rw [this,if_pos (h a List.mem_cons_self)]
  exact h a List.mem_cons_self
theorem Gh {σ:Type} (I:σ→Prop) (len:Nat) (upd:Nat→σ→σ) (hI: ∀s i,I s→i<len→I (upd i s)) (hc: ∀s i j,I s→i<len→j<len→upd i (upd j s)=upd j (upd i s)) {x:Nat} (hx:x<len): ∀(l:List Nat) (s:σ),I s→(∀y∈l,y<len)→x∈l→(l.erase x).foldl (fun s i=>upd i s) (upd x s)=l.foldl (fun s i=>upd i s) s
 |[],_,_,_,h=>by cases h
 |y::l,s,hs,hl,h=>by
  by_cases e:y=x
  ·subst e;rw [List.erase_cons_head];rfl
  ·have hyl:=hl y List.mem_cons_self
   rw [List.erase_cons_tail (by simpa using e),List.foldl_cons,List.foldl_cons,hc s y x hs hyl hx]
   exact Gh I len upd hI hc hx l (upd y s) (hI s y hs hyl) (fun z hz=>hl z (List.mem_cons_of_mem _ hz)) ((List.mem_cons.1 h).resolve_left (Ne.symm e))
theorem IU {σ:Type} [DecidableEq σ] {body:σ→Nat→Option σ} (I:σ→Prop) (len:Nat) (upd:Nat→σ→σ) (hb: ∀s i,I s→i<len→body s i=some (upd i s)) (hI: ∀s i,I s→i<len→I (upd i s)) (hc: ∀s i j,I s→i<len→j<len→upd i (upd j s)=upd j (upd i s)):
  ∀(k:Nat) (l:List Nat) (s:σ),l.length=k→(∀y∈l,y<len)→I s→xH body k l s=some (l.foldl (fun s i=>upd i s) s)
 |0,l,s,hl,_,_=>by
  have:l=[]:=List.eq_nil_of_length_eq_zero hl
  subst this;rfl
 |k+1,l,s,hl,hlt,hs=>by
  unfold xH
  refine Gj (fun e=> ?_) fun o ho=> ?_
  ·have:=congrArg List.length e
   rw [List.length_map,hl]at this;cases this
  ·obtain⟨x,hx,rfl⟩:=List.mem_map.1 ho
   have hxl:=hlt x hx
   rw [hb s x hs hxl,Option.bind_some,IU I len upd hb hI hc k (l.erase x) (upd x s) (by rw [List.length_erase_of_mem hx,hl];rfl) (fun y hy=>hlt y (List.mem_of_mem_erase hy)) (hI s x hs hxl),Gh I len upd hI hc hxl l s hs hlt hx]
theorem Tt (W:Nat→Int) (s:List Int) (i j:Nat):(s.set j (W j)).set i (W i)=(s.set i (W i)).set j (W j):=by
 by_cases e:i=j
 ·subst e;rfl
 ·exact List.set_comm _ _ (Ne.symm e)
theorem OL (ks:Nat→Nat) (W:Nat→Int): ∀(l:List Nat) (s:List Int),(∀y∈l,ks y<s.length)→(l.foldl (fun s i=>s.set (ks i) (W (ks i))) s).length=s.length∧ ∀k,((∃y∈l,ks y=k)→at' (l.foldl (fun s i=>s.set (ks i) (W (ks i))) s) k=W k)∧((∀y∈l,ks y≠k)→at' (l.foldl (fun s i=>s.set (ks i) (W (ks i))) s) k=at' s k)
 |[],s,_=> ⟨rfl,fun k=> ⟨fun⟨y,hy,_⟩=>absurd hy List.not_mem_nil,fun _=>rfl⟩⟩
 |x::l,s,h=>by
  have hx:=h x List.mem_cons_self
  obtain⟨h1,h2⟩:=OL ks W l (s.set (ks x) (W (ks x))) fun y hy=>by rw [List.length_set];exact h y (List.mem_cons_of_mem _ hy)
  rw [List.foldl_cons]
  refine⟨by rw [h1,List.length_set],fun k=> ⟨fun⟨y,hy,e⟩=> ?_,fun hn=> ?_⟩⟩
  ·by_cases q: ∃y∈l,ks y=k
   ·exact(h2 k).1 q
   ·rw [(h2 k).2 fun y hy e=>q ⟨y,hy,e⟩]
    rcases List.mem_cons.1 hy with rfl|hy
    ·subst e;exact dB hx
    ·exact absurd ⟨y,hy,e⟩ q
  ·rw [(h2 k).2 fun y hy=>hn y (List.mem_cons_of_mem _ hy)]
   exact cO (hn x List.mem_cons_self)
theorem Lx {mp:List (Int × Int)} {f:Nat→Bool} {o N:Nat} (hmp:mp=KO f o N) (W:Nat→Int) {body:List Int→Nat→Option (List Int)}
  (hb: ∀s i k,s.length=N→i<mp.length→k<N→f k=true→at' (mp.map Prod.fst) i=(k:Int)→at' (mp.map Prod.snd) i=((2*(o+lC f k):Nat):Int)→body s i=some (s.set k (W k))):
  xH body mp.length (List.range mp.length) (List.replicate N 0)=some (tab N fun k=>if f k=true then W k else 0):=by
 have ent: ∀i,i<mp.length→ ∃k,k<N∧f k=true∧at' (mp.map Prod.fst) i=(k:Int)∧at' (mp.map Prod.snd) i=((2*(o+lC f k):Nat):Int):=fun i hi=>by
  have hm:at' mp i∈KO f o N:=hmp ▸ at_mem hi
  obtain⟨k,h1,h2,h3⟩:=EU.1 hm
  refine⟨k,h1,h2, ?_, ?_⟩
  ·rw [eu (by rw [List.length_map];exact hi),List.getElem_map,←eu hi,h3]
  ·rw [eu (by rw [List.length_map];exact hi),List.getElem_map,←eu hi,h3]
 have hks: ∀i,i<mp.length→(at' (mp.map Prod.fst) i).toNat<N:=fun i hi=>by
  obtain⟨k,h1,_,h3,_⟩:=ent i hi
  rw [h3];omega
 rw [IU (fun s:List Int=>s.length=N) mp.length (fun i s=>s.set (at' (mp.map Prod.fst) i).toNat (W (at' (mp.map Prod.fst) i).toNat)) (fun s i hs hi=> ?_) (fun s i hs hi=>by rw [List.length_set];exact hs) (fun s i j _ _ _=>Tt W s _ _) mp.length (List.range mp.length) _ List.length_range (fun y hy=>List.mem_range.1 hy) (by simp)]
 ·congr 1
  obtain⟨h1,h2⟩:=OL (fun i=>(at' (mp.map Prod.fst) i).toNat) W (List.range mp.length) (List.replicate N 0) fun y hy=>by rw [List.length_replicate];exact hks y (List.mem_range.1 hy)
  refine Dl (by rw [h1,aV,List.length_replicate]) fun k hk=> ?_
  rw [h1,List.length_replicate]at hk
  rw [kg hk]
  cases hf:f k with
  |true=>
   rw [if_pos rfl]
   refine(h2 k).1 ?_
   have hm:((k:Int),((2*(o+lC f k):Nat):Int))∈mp:=hmp ▸ EU.2 ⟨k,hk,hf,rfl⟩
   obtain⟨i,hi,e⟩:=oG hm
   refine⟨i,List.mem_range.2 hi, ?_⟩
   show(at' (mp.map Prod.fst) i).toNat=k
   rw [eu (by rw [List.length_map];exact hi),List.getElem_map,←eu hi,e];rfl
  |false=>
   rw [if_neg (by simp),(h2 k).2 (fun y hy e=> ?_),dm hk]
   obtain⟨k',_,h3,h4,_⟩:=ent y (List.mem_range.1 hy)
   have e:(at' (mp.map Prod.fst) y).toNat=k:=e
   rw [h4]at e
   have:k'=k:=by omega
   subst this
   rw [hf]at h3;cases h3
 ·obtain⟨k,h1,h2,h3,h4⟩:=ent i hi
  rw [hb s i k hs hi h1 h2 h3 h4,h3];rfl
def zo (s:List af) (r:Nat) (c:Bool) (v:Int):List af:=if c=true then s.set r ⟨(at' s r).e0,v⟩else s.set r ⟨v,(at' s r).e1⟩
theorem rA (s:List af) (r:Nat) (c:Bool) (v:Int):(zo s r c v).length=s.length:=by unfold zo;split<;>simp
theorem Eo {s:List af} {r:Nat} (c:Bool) (v:Int) (hr:r<s.length) (k:Nat):(at' (zo s r c v) k).e0=(if k=r∧c=false then v else(at' s k).e0)∧(at' (zo s r c v) k).e1=(if k=r∧c=true then v else(at' s k).e1):=by
 unfold zo
 by_cases e:r=k
 ·subst e
  cases c
  ·rw [if_neg (by simp),dB hr];simp
  ·rw [if_pos rfl,dB hr];simp
 ·have e': ¬ k=r:=fun q=>e q.symm
  cases c
  ·rw [if_neg (by simp),cO e];simp [e']
  ·rw [if_pos rfl,cO e];simp [e']
theorem Ru {x y:af} (h0:x.e0=y.e0) (h1:x.e1=y.e1):x=y:=by cases x;cases y;simp at h0 h1;rw [h0,h1]
theorem Tf (W:Nat→Bool→Int) {s:List af} {i j:Nat} {c d:Bool} (hi:i<s.length) (hj:j<s.length):zo (zo s j d (W j d)) i c (W i c)=zo (zo s i c (W i c)) j d (W j d):=by
 refine Dl (by rw [rA,rA,rA,rA]) fun k hk=> ?_
 have h1:=Eo c (W i c) (s:=zo s j d (W j d)) (by rw [rA];exact hi) k
 have h2:=Eo d (W j d) (s:=zo s i c (W i c)) (by rw [rA];exact hj) k
 have h3:=Eo d (W j d) hj k
 have h4:=Eo c (W i c) hi k
 refine Ru ?_ ?_
 ·rw [h1.1,h2.1,h3.1,h4.1]
  by_cases e1:k=i∧c=false<;>by_cases e2:k=j∧d=false
  ·obtain⟨rfl,rfl⟩:=e1;obtain⟨rfl,rfl⟩:=e2;rfl
  ·rw [if_pos e1,if_neg e2,if_pos e1]
  ·rw [if_neg e1,if_pos e2,if_pos e2]
  ·rw [if_neg e1,if_neg e2,if_neg e2,if_neg e1]
 ·rw [h1.2,h2.2,h3.2,h4.2]
  by_cases e1:k=i∧c=true<;>by_cases e2:k=j∧d=true
  ·obtain⟨rfl,rfl⟩:=e1;obtain⟨rfl,rfl⟩:=e2;rfl
  ·rw [if_pos e1,if_neg e2,if_pos e1]
  ·rw [if_neg e1,if_pos e2,if_pos e2]
  ·rw [if_neg e1,if_neg e2,if_neg e2,if_neg e1]
theorem Lb (kr:Nat→Nat) (kc:Nat→Bool) (W:Nat→Bool→Int): ∀(l:List Nat) (s:List af),(∀y∈l,kr y<s.length)→(l.foldl (fun s i=>zo s (kr i) (kc i) (W (kr i) (kc i))) s).length=s.length∧ ∀k,
  ((∃y∈l,kr y=k∧kc y=false)→(at' (l.foldl (fun s i=>zo s (kr i) (kc i) (W (kr i) (kc i))) s) k).e0=W k false)∧((∀y∈l, ¬ (kr y=k∧kc y=false))→(at' (l.foldl (fun s i=>zo s (kr i) (kc i) (W (kr i) (kc i))) s) k).e0=(at' s k).e0)∧
  ((∃y∈l,kr y=k∧kc y=true)→(at' (l.foldl (fun s i=>zo s (kr i) (kc i) (W (kr i) (kc i))) s) k).e1=W k true)∧((∀y∈l, ¬ (kr y=k∧kc y=true))→(at' (l.foldl (fun s i=>zo s (kr i) (kc i) (W (kr i) (kc i))) s) k).e1=(at' s k).e1)
 |[],s,_=> ⟨rfl,fun k=> ⟨fun⟨y,hy,_⟩=>absurd hy List.not_mem_nil,fun _=>rfl,fun⟨y,hy,_⟩=>absurd hy List.not_mem_nil,fun _=>rfl⟩⟩
 |x::l,s,h=>by
  have hx:=h x List.mem_cons_self
  obtain⟨h1,h2⟩:=Lb kr kc W l (zo s (kr x) (kc x) (W (kr x) (kc x))) fun y hy=>by rw [rA];exact h y (List.mem_cons_of_mem _ hy)
  rw [List.foldl_cons]
  refine⟨by rw [h1,rA],fun k=> ?_⟩
  obtain⟨g1,g2,g3,g4⟩:=h2 k
  obtain⟨f1,f2⟩:=Eo (kc x) (W (kr x) (kc x)) hx k
  refine⟨fun⟨y,hy,e⟩=> ?_,fun hn=> ?_,fun⟨y,hy,e⟩=> ?_,fun hn=> ?_⟩
  ·by_cases q: ∃y∈l,kr y=k∧kc y=false
   ·exact g1 q
   ·rw [g2 fun y hy e=>q ⟨y,hy,e⟩,f1]
    rcases List.mem_cons.1 hy with rfl|hy
    ·rw [if_pos ⟨e.1.symm,e.2⟩,e.1,e.2]
    ·exact absurd ⟨y,hy,e⟩ q
  ·rw [g2 fun y hy=>hn y (List.mem_cons_of_mem _ hy),f1,if_neg fun q=>hn x List.mem_cons_self ⟨q.1.symm,q.2⟩]
  ·by_cases q: ∃y∈l,kr y=k∧kc y=true
   ·exact g3 q
   ·rw [g4 fun y hy e=>q ⟨y,hy,e⟩,f2]
    rcases List.mem_cons.1 hy with rfl|hy
    ·rw [if_pos ⟨e.1.symm,e.2⟩,e.1,e.2]
    ·exact absurd ⟨y,hy,e⟩ q
  ·rw [g4 fun y hy=>hn y (List.mem_cons_of_mem _ hy),f2,if_neg fun q=>hn x List.mem_cons_self ⟨q.1.symm,q.2⟩]
section
variable {p:ah} {s:State}
theorem Qm {mp:List (af × Int)} {o:Nat} (hmp:mp=JY p s o p.racks.length) (W:Nat→Bool→Int) {body:List af→Nat→Option (List af)}
  (hb: ∀z i r c,z.length=p.racks.length→i<mp.length→r<p.racks.length→iN s (if c=true then(at' p.racks r).feeds.e1 else(at' p.racks r).feeds.e0)=true→at' (mp.map Prod.fst) i=⟨(r:Int),if c=true then 1 else 0⟩→at' (mp.map Prod.snd) i=((2*mW p s o r c:Nat):Int)→body z i=some (zo z r c (W r c))):
  xH body mp.length (List.range mp.length) (List.replicate p.racks.length ⟨0,0⟩)=some (tab p.racks.length fun r=> ⟨if iN s (at' p.racks r).feeds.e0=true then W r false else 0,if iN s (at' p.racks r).feeds.e1=true then W r true else 0⟩):=by
 have ent: ∀i,i<mp.length→ ∃r c,r<p.racks.length∧iN s (if c=true then(at' p.racks r).feeds.e1 else(at' p.racks r).feeds.e0)=true∧at' (mp.map Prod.fst) i=⟨(r:Int),if c=true then 1 else 0⟩∧at' (mp.map Prod.snd) i=((2*mW p s o r c:Nat):Int):=fun i hi=>by
  have hm:at' mp i∈JY p s o p.racks.length:=hmp ▸ at_mem hi
  obtain⟨r,h1,h2⟩:=BG.1 hm
  have q1:at' (mp.map Prod.fst) i=(at' mp i).1:=by rw [eu (by rw [List.length_map];exact hi),List.getElem_map,←eu hi]
  have q2:at' (mp.map Prod.snd) i=(at' mp i).2:=by rw [eu (by rw [List.length_map];exact hi),List.getElem_map,←eu hi]
  rcases h2 with⟨hf,e⟩|⟨hf,e⟩
  ·exact⟨r,false,h1,hf,by rw [q1,e];rfl,by rw [q2,e]⟩
  ·exact⟨r,true,h1,hf,by rw [q1,e];rfl,by rw [q2,e]⟩
 have kcd: ∀(c:Bool),decide ((if c=true then(1:Int)else 0)=1)=c:=fun c=>by cases c<;>rfl
 rw [IU (fun z:List af=>z.length=p.racks.length) mp.length (fun i z=>zo z (at' (mp.map Prod.fst) i).e0.toNat (decide ((at' (mp.map Prod.fst) i).e1=1)) (W (at' (mp.map Prod.fst) i).e0.toNat (decide ((at' (mp.map Prod.fst) i).e1=1)))) (fun z i hz hi=> ?_) (fun z i hz hi=>by rw [rA];exact hz) (fun z i j hz hi hj=> ?_) mp.length (List.range mp.length) _ List.length_range (fun y hy=>List.mem_range.1 hy) (by simp)]
 ·congr 1
  obtain⟨h1,h2⟩:=Lb (fun i=>(at' (mp.map Prod.fst) i).e0.toNat) (fun i=>decide ((at' (mp.map Prod.fst) i).e1=1)) W (List.range mp.length) (List.replicate p.racks.length ⟨0,0⟩) fun y hy=>by
   obtain⟨r,c,g1,_,g3,_⟩:=ent y (List.mem_range.1 hy)
   rw [List.length_replicate,g3]
   show(r:Int).toNat<_
   omega
  refine Dl (by rw [h1,aV,List.length_replicate]) fun k hk=> ?_
  rw [h1,List.length_replicate]at hk
  rw [kg hk]
  obtain⟨f1,f2,f3,f4⟩:=h2 k
  refine Ru ?_ ?_
  ·show _=if iN s (at' p.racks k).feeds.e0=true then W k false else 0
   cases hf:iN s (at' p.racks k).feeds.e0 with
   |true=>
    rw [if_pos rfl]
    have hm:((⟨(k:Int),0⟩:af),((2*mW p s o k false:Nat):Int))∈mp:=hmp ▸ BG.2 ⟨k,hk, .inl ⟨hf,rfl⟩⟩
    obtain⟨i,hi,e⟩:=oG hm
    refine f1 ⟨i,List.mem_range.2 hi, ?_⟩
    rw [eu (by rw [List.length_map];exact hi),List.getElem_map,←eu hi,e];exact⟨rfl,rfl⟩
   |false=>
    rw [if_neg (by simp),f2 fun y hy e=> ?_,dm hk]
    obtain⟨r,c,_,g2,g3,_⟩:=ent y (List.mem_range.1 hy)
    rw [g3,kcd]at e
    have e1:(r:Int).toNat=k:=e.1
    have:r=k:=by omega
    subst this
    rw [e.2,if_neg (by simp),hf]at g2;cases g2
  ·show _=if iN s (at' p.racks k).feeds.e1=true then W k true else 0
   cases hf:iN s (at' p.racks k).feeds.e1 with
   |true=>
    rw [if_pos rfl]
    have hm:((⟨(k:Int),1⟩:af),((2*mW p s o k true:Nat):Int))∈mp:=hmp ▸ BG.2 ⟨k,hk, .inr ⟨hf,rfl⟩⟩
    obtain⟨i,hi,e⟩:=oG hm
    refine f3 ⟨i,List.mem_range.2 hi, ?_⟩
    rw [eu (by rw [List.length_map];exact hi),List.getElem_map,←eu hi,e];exact⟨rfl,rfl⟩
   |false=>
    rw [if_neg (by simp),f4 fun y hy e=> ?_,dm hk]
    obtain⟨r,c,_,g2,g3,_⟩:=ent y (List.mem_range.1 hy)
    rw [g3,kcd]at e
    have e1:(r:Int).toNat=k:=e.1
    have:r=k:=by omega
    subst this
    rw [e.2,if_pos rfl,hf]at g2;cases g2
 ·obtain⟨r,c,h1,h2,h3,h4⟩:=ent i hi
  rw [hb z i r c hz hi h1 h2 h3 h4,h3,kcd];rfl
 ·obtain⟨r,c,h1,_,h3,_⟩:=ent i hi
  obtain⟨r',c',h1',_,h3',_⟩:=ent j hj
  rw [h3,h3',kcd,kcd]
  exact Tf W (by rw [hz];show(r:Int).toNat<_;omega) (by rw [hz];show(r':Int).toNat<_;omega)
end
structure BN (p:ah) (s:State) (m0 m1 m:Nat) (a b:List bg) (fr:List (List Int)) (R:Nat→Prop) (x:aA) (cut:List Bool):Prop where
 hN:NW (nodes p) m a fr
 sm:Sm m a b
 res: ∀v,v≠0→v≠1+p.buses.toNat+p.racks.length→om m b v=om m a v
 e0:m0=lC (bC p s) p.sources.length
 e1:m1=m0+lC (aN p s) p.links.length
 e2:m=m1+sH p s p.racks.length
 src: ∀k,k<p.sources.length→bC p s k=true→Pr a (lC (bC p s) k) 0 (1+(at' p.sources k).bus.toNat) (at' p.sources k).power 0
 lnk: ∀k,k<p.links.length→aN p s k=true→Pr a (m0+lC (aN p s) k) (1+(at' p.links k).a.toNat) (1+(at' p.links k).b.toNat) (at' p.links k).most (at' p.links k).most
 rck: ∀r,r<p.racks.length→Pr a (m1+sH p s r) (1+p.buses.toNat+r) (1+p.buses.toNat+p.racks.length) (at' p.racks r).power 0∧(iN s (at' p.racks r).feeds.e0=true→Pr a (mW p s m1 r false) (1+(at' p.racks r).feeds.e0.toNat) (1+p.buses.toNat+r) (at' p.racks r).power 0)∧(iN s (at' p.racks r).feeds.e1=true→Pr a (mW p s m1 r true) (1+(at' p.racks r).feeds.e1.toNat) (1+p.buses.toNat+r) (at' p.racks r).power 0)
 xe:x=⟨tab p.sources.length fun k=>if bC p s k=true then iW b (2*(0+lC (bC p s) k)+1)else 0,tab p.links.length fun k=>if aN p s k=true then(at' p.links k).most - iW b (2*(m0+lC (aN p s) k))else 0,tab p.racks.length fun r=> ⟨if iN s (at' p.racks r).feeds.e0=true then iW b (2*mW p s m1 r false+1)else 0,if iN s (at' p.racks r).feeds.e1=true then iW b (2*mW p s m1 r true+1)else 0⟩⟩
 clo:XO m b R
 r0:R 0
 rs: ¬ R (1+p.buses.toNat+p.racks.length)
 mn: ∀K,XO m b K→K 0→ ∀v,R v→K v
 cl:cut.length=p.buses.toNat
 ct: ∀v:Nat,(v:Int)<p.buses→(at' cut v=true↔R (v+1))
theorem mR (j:Nat):tw (2*j)=2*j+1:=by unfold tw;rw [if_pos (by omega)]
theorem Bo (j:Nat):tw (2*j+1)=2*j:=by unfold tw;rw [if_neg (by omega)];omega
theorem VQ {p:ah} {s:State} {o r:Nat} (c:Bool) (hf:iN s (if c=true then(at' p.racks r).feeds.e1 else(at' p.racks r).feeds.e0)=true):mW p s o r c<o+sH p s r+UF p s r:=by
 unfold mW UF
 cases c with
 |false=>
  rw [if_neg (by simp)]at hf
  rw [if_pos hf,if_neg (by simp)];omega
 |true=>
  rw [if_pos rfl]at hf
  rw [if_pos hf]
  cases iN s (at' p.racks r).feeds.e0<;>simp
section
variable {p:ah} {s:State} (hp:VP p) (hs:VS p s)
include hp hs
theorem S9: ∃m0 m1 m a b fr R x cut,bN p s=some (x,cut,0)∧BN p s m0 m1 m a b fr R x cut:=by
 have hb:=hp.b;have hsl:=hp.sl;have hll:=hp.ll;have hrl:=hp.rl
 obtain⟨a0,fr0,l0,n0,p0⟩:=VN hp hs
 have c0:=M6 (bC p s) p.sources.length
 have c1:=M6 (aN p s) p.links.length
 have c2:=VD p s p.racks.length
 obtain⟨a1,fr1,l1,n1,k1,p1⟩:=UR hp hs n0 (by omega)
 obtain⟨a2,fr2,l2,n2,k2,p2⟩:=WN hp hs n1 (by omega) (List.replicate p.racks.length ⟨0,0⟩)
 generalize hm0:lC (bC p s) p.sources.length=m0 at*
 generalize hm1:m0+lC (aN p s) p.links.length=m1 at*
 generalize hm2:m1+sH p s p.racks.length=m at*
 obtain⟨b,f1,sm,res,ap⟩:=Yy n2 (sink:=1+p.buses.toNat+p.racks.length) (by omega) (by unfold nodes;omega)
 have nb:=n2.same sm
 obtain⟨cut,r1,cl,R,clo,r0,rn,mn,ct⟩:=TY nb (p:=p) (by unfold nodes;omega)
 have hm:m≤1000:=n2.m1
 have lB: ∀j,j<2*m→0≤iW b j∧iW b j≤1000000:=fun j hj=>by
  have h1:=nb.left j hj;have h2:=nb.left _ (EG hj);omega
 have srcs: ∀k,k<p.sources.length→bC p s k=true→lC (bC p s) k<m:=fun k hk hf=>by
  have:=zB hk hf;omega
 have lnks: ∀k,k<p.links.length→aN p s k=true→m0+lC (aN p s) k<m:=fun k hk hf=>by
  have:=zB hk hf;omega
 have rcks: ∀r c,r<p.racks.length→iN s (if c=true then(at' p.racks r).feeds.e1 else(at' p.racks r).feeds.e0)=true→mW p s m1 r c<m:=fun r c hr hf=>by
  have:=VQ (o:=m1) c hf
  have:=Mq (p:=p) (s:=s) hr
  omega
 have x4:=Lx (mp:=KO (bC p s) 0 p.sources.length) rfl (fun k=>iW b (2*(0+lC (bC p s) k)+1)) (body:=jO (KO (bC p s) 0 p.sources.length) ⟨b,fr2⟩) (fun z i k hz hi hk hf e1 e2=>by
  have:=srcs k hk hf
  unfold jO
  rw [e1,e2,xor_eq (by omega),mR,ai ⟨by rw [nb.len];omega,by omega⟩,Int.toNat_natCast,Int.toNat_natCast];rfl)
 have x5:=Lx (mp:=KO (aN p s) m0 p.links.length) rfl (fun k=>(at' p.links k).most - iW b (2*(m0+lC (aN p s) k))) (body:=jM p.links (KO (aN p s) m0 p.links.length) ⟨b,fr2⟩) (fun z i k hz hi hk hf e1 e2=>by
  have:=lnks k hk hf
  have hw:=(hp.lnk k hk).most
  have hl:=lB (2*(m0+lC (aN p s) k)) (by omega)
  unfold jM
  rw [e1,e2,ai ⟨by omega,by rw [nb.len];omega,by omega⟩,Int.toNat_natCast,Int.toNat_natCast]
  show some (z.set k (IntKind.wrap .i64 ((at' p.links k).most - iW b (2*(m0+lC (aN p s) k)))))=_
  rw [wr (by omega)])
 have x6:=Qm (p:=p) (s:=s) (mp:=JY p s m1 p.racks.length) rfl (fun r c=>iW b (2*mW p s m1 r c+1)) (body:=jP (JY p s m1 p.racks.length) ⟨b,fr2⟩) (fun z i r c hz hi hr hf e1 e2=>by
  have:=rcks r c hr hf
  unfold jP
  rw [e1,e2,xor_eq (by omega),mR]
  dsimp only
  have q1:((0:Int)≤((2*mW p s m1 r c+1:Nat):Int)∧((2*mW p s m1 r c+1:Nat):Int)<(b.length:Int))∧((0:Int)≤(r:Int)∧(r:Int)<(z.length:Int)):=⟨by rw [nb.len];omega,by omega⟩
  cases c with
  |false=>rw [if_neg (by simp),decide_eq_true rfl,cond_true,ai q1];rfl
  |true=>rw [if_pos rfl,decide_eq_false (by omega),cond_false,ai rfl,ai q1];rfl)
 refine⟨m0,m1,m,a2,b,fr2,R,_,cut, ?_,⟨n2,sm,res,hm0.symm,hm1.symm,hm2.symm,fun k hk hf=>k2 _ _ _ _ _ (by have:=zB hk hf;omega) (k1 _ _ _ _ _ (by have:=zB hk hf;omega) (p0 k hk hf)),fun k hk hf=>k2 _ _ _ _ _ (by have:=zB hk hf;omega) (p1 k hk hf),p2,rfl,clo,r0,fun h=> ?_,mn,cl,ct⟩⟩
 ·have e3:IntKind.wrap .i64 (IntKind.wrap .i64 (1+p.buses)+(p.racks.length:Int))=((1+p.buses.toNat+p.racks.length:Nat):Int):=by rw [wr (x:=1+p.buses) (by omega),wr (by omega)];omega
  have e4:IntKind.wrap .i64 (((1+p.buses.toNat+p.racks.length:Nat):Int)+1)=((nodes p:Nat):Int):=by unfold nodes;rw [wr (by omega)];omega
  have e5:nodes p≤100:=by unfold nodes;omega
  unfold bN
  rw [kD p s hp.small,eG.mpr ⟨hp,hs⟩,Option.bind_some,decide_eq_true rfl,Bool.not_true,cond_false,e3,e4,ai ⟨by omega,by omega,by omega⟩,ai ⟨by omega,by omega,by omega,by omega,by omega,by omega,by omega,by omega,by omega⟩,Int.toNat_natCast,l0]
  simp only [Option.bind_some]
  rw [l1]
  simp only [Option.bind_some]
  rw [Int.toNat_natCast,l2]
  simp only [Option.bind_some]
  rw [f1,Option.bind_some,x4,Option.bind_some,x5,Option.bind_some,x6,Option.bind_some,ai ⟨by omega,by omega,by omega⟩]
  unfold fM
  rw [Option.bind_some]
  have r1':dQ b fr2 ⟨p.buses,p.sources,p.links,p.racks⟩ (List.replicate p.buses.toNat false)=some cut:=r1
  rw [r1',Option.bind_some]
 ·obtain⟨K,h1,h2,h3⟩:=ap
  exact h3 (mn K h1 h2 _ h)
end
structure Ps (p:ah) (s:State) (x:aA):Prop where
 l1:x.sources.length=p.sources.length
 l2:x.links.length=p.links.length
 l3:x.racks.length=p.racks.length
 sS: ∀k,k<p.sources.length→0≤at' x.sources k∧at' x.sources k≤(at' p.sources k).power∧(bC p s k=false→at' x.sources k=0)
 sL: ∀i,i<p.links.length→ -(at' p.links i).most≤at' x.links i∧at' x.links i≤(at' p.links i).most∧(aN p s i=false→at' x.links i=0)
 sR: ∀r,r<p.racks.length→0≤(at' x.racks r).e0∧0≤(at' x.racks r).e1∧(at' x.racks r).e0+(at' x.racks r).e1≤(at' p.racks r).power∧(iN s (at' p.racks r).feeds.e0=false→(at' x.racks r).e0=0)∧(iN s (at' p.racks r).feeds.e1=false→(at' x.racks r).e1=0)
 bl: ∀b:Nat,(b:Int)<p.buses→MB p x b=0
def PS (p:ah) (x:aA):Int:=aU p.racks.length fun r=>(at' x.racks r).e0+(at' x.racks r).e1
def Xl (p:ah) (x:aA) (D:Nat→Bool) (k:Nat):Int:=if D (at' p.sources k).bus.toNat=true then 0 else at' x.sources k
def Uz (p:ah) (x:aA) (D:Nat→Bool) (i:Nat):Int:=(if D (at' p.links i).a.toNat=true then at' x.links i else 0) - (if D (at' p.links i).b.toNat=true then at' x.links i else 0)
def Qh (p:ah) (x:aA) (D:Nat→Bool) (r:Nat):Int:=(if D (at' p.racks r).feeds.e0.toNat=true then(at' x.racks r).e0 else 0)+(if 0≤(at' p.racks r).feeds.e1∧D (at' p.racks r).feeds.e1.toNat=true then(at' x.racks r).e1 else 0)
theorem AX {N:Nat} {D:Nat→Bool} {z v:Int} (hz:z<N):(aU N fun b=>if D b=true then(if z=(b:Int)then v else 0)else 0)=if 0≤z∧D z.toNat=true then v else 0:=by
 by_cases h0:0≤z
 ·have e:(fun b:Nat=>if D b=true then(if z=(b:Int)then v else 0)else 0)=fun b=>if b=z.toNat then(if D b=true then v else 0)else 0:=funext fun b=>by
   by_cases e1:b=z.toNat
   ·rw [if_pos e1,if_pos (show z=(b:Int) by omega)]
   ·rw [if_neg e1,if_neg (show ¬ z=(b:Int) by omega)];split<;>rfl
  rw [e,HV (fun b=>if D b=true then v else 0) (by omega)]
  by_cases e2:D z.toNat=true
  ·rw [if_pos e2,if_pos ⟨h0,e2⟩]
  ·rw [if_neg e2,if_neg fun q=>e2 q.2]
 ·rw [if_neg fun q=>h0 q.1,bR (g:=fun _=>0) fun b _=>by rw [if_neg (show ¬ z=(b:Int) by omega)];split<;>rfl,nW]
section
variable {p:ah} {s:State} (hp:VP p) (hs:VS p s) {x:aA} (hx:Ps p s x)
include hp hs hx
theorem RY (D:Nat→Bool):(aU p.sources.length fun k=>if D (at' p.sources k).bus.toNat=true then at' x.sources k else 0)=(aU p.links.length (Uz p x D))+aU p.racks.length (Qh p x D):=by
 have hb:=hp.b
 have h0:(aU p.buses.toNat fun b=>if D b=true then MB p x b else 0)=0:=by
  rw [bR (g:=fun _=>0) fun b hb=>by rw [hx.bl b (by omega)];split<;>rfl,nW]
 have e1:(fun b=>if D b=true then MB p x b else 0)=fun b=>((aU p.sources.length fun k=>if D b=true then NU p x b k else 0)+(aU p.links.length fun k=>if D b=true then Kk p x b k else 0)) - (aU p.racks.length fun k=>if D b=true then J2 p x b k else 0):=funext fun b=>by
  cases D b with
  |true=>simp only [if_true];rfl
  |false=>simp [nW]
 rw [e1,EY,A8,F4,F4 p.buses.toNat p.links.length,F4 p.buses.toNat p.racks.length]at h0
 have s1:(aU p.sources.length fun k=>aU p.buses.toNat fun b=>if D b=true then NU p x b k else 0)=aU p.sources.length fun k=>if D (at' p.sources k).bus.toNat=true then at' x.sources k else 0:=by
  refine bR fun k hk=> ?_
  have hv:=(hp.src k hk).bus
  unfold NU
  rw [AX (by omega)]
  by_cases h:D (at' p.sources k).bus.toNat=true
  ·rw [if_pos h,if_pos ⟨hv.1,h⟩]
  ·rw [if_neg h,if_neg fun q=>h q.2]
 have s2:(aU p.links.length fun k=>aU p.buses.toNat fun b=>if D b=true then Kk p x b k else 0)= - aU p.links.length (Uz p x D):=by
  rw [←EJ]
  refine bR fun k hk=> ?_
  have hv:=hp.lnk k hk;have ha:=hv.a;have hbb:=hv.b
  have e:(fun b=>if D b=true then Kk p x b k else 0)=fun b=>(if D b=true then(if(at' p.links k).b=(b:Int)then at' x.links k else 0)else 0) - (if D b=true then(if(at' p.links k).a=(b:Int)then at' x.links k else 0)else 0):=funext fun b=>by
   unfold Kk;cases D b<;>simp
  rw [e,EY,AX (by omega),AX (by omega)]
  unfold Uz
  cases D (at' p.links k).b.toNat<;>cases D (at' p.links k).a.toNat<;>simp [ha.1,hbb.1]
 have s3:(aU p.racks.length fun k=>aU p.buses.toNat fun b=>if D b=true then J2 p x b k else 0)=aU p.racks.length (Qh p x D):=by
  refine bR fun k hk=> ?_
  have hv:=hp.rck k hk;have ha:=hv.e0;have hbb:=hv.e1
  have e:(fun b=>if D b=true then J2 p x b k else 0)=fun b=>(if D b=true then(if(at' p.racks k).feeds.e0=(b:Int)then(at' x.racks k).e0 else 0)else 0)+(if D b=true then(if(at' p.racks k).feeds.e1=(b:Int)then(at' x.racks k).e1 else 0)else 0):=funext fun b=>by
   unfold J2;cases D b<;>simp
  rw [e,A8,AX (by omega),AX (by omega)]
  unfold Qh
  cases D (at' p.racks k).feeds.e0.toNat<;>simp [ha.1]
 rw [s1,s2,s3]at h0
 omega
theorem FY (D:Nat→Bool):PS p x=aU p.sources.length (Xl p x D)+aU p.links.length (Uz p x D)+aU p.racks.length (Qh p x D):=by
 have hb:=hp.b
 have h1:=RY hp hs hx D
 have h2:=RY hp hs hx fun _=>true
 have e1:(aU p.links.length (Uz p x fun _=>true))=0:=by
  rw [bR (g:=fun _=>0) fun i _=>by unfold Uz;simp,nW]
 have e2:(aU p.racks.length (Qh p x fun _=>true))=PS p x:=by
  refine bR fun r hr=> ?_
  have hv:=hp.rck r hr;have hw:=hx.sR r hr
  unfold Qh
  rw [if_pos rfl]
  by_cases h:0≤(at' p.racks r).feeds.e1
  ·rw [if_pos ⟨h,rfl⟩]
  ·rw [if_neg fun q=>h q.1,hw.2.2.2.2 (by unfold iN;rw [decide_eq_false h];rfl)]
 have e3:(aU p.sources.length fun k=>if(true:Bool)=true then at' x.sources k else 0)=(aU p.sources.length (Xl p x D))+aU p.sources.length fun k=>if D (at' p.sources k).bus.toNat=true then at' x.sources k else 0:=by
  rw [←A8]
  refine bR fun k _=> ?_
  unfold Xl
  cases D (at' p.sources k).bus.toNat<;>simp
 have h2':(aU p.sources.length fun k=>if(true:Bool)=true then at' x.sources k else 0)=_:=h2
 rw [e3,e1,e2]at h2'
 omega
def Ki (p:ah) (s:State) (D:Nat→Bool):Prop:= ∀b:Nat,(b:Int)<p.buses→D b=true→at' s.badBus b=false
omit hx in
theorem Zi {D:Nat→Bool} (hD:Ki p s D) {b:Int} (hb:0≤b∧b<p.buses) (h:D b.toNat=true):iN s b=true:=by
 unfold iN
 rw [decide_eq_true hb.1,hD b.toNat (by omega) h];rfl
theorem Zd {D:Nat→Bool} (hD:Ki p s D):(∀k,k<p.sources.length→Xl p x D k≤JX p s D k)∧(∀i,i<p.links.length→Uz p x D i≤JZ p s D i)∧ ∀r,r<p.racks.length→Qh p x D r≤Kb p D r:=by
 refine⟨fun k hk=> ?_,fun i hi=> ?_,fun r hr=> ?_⟩
 ·have h:=hx.sS k hk
  have hw:=(hp.src k hk).power
  unfold Xl JX
  cases D (at' p.sources k).bus.toNat<;>cases hf:bC p s k<;>simp
  ·have:=h.2.2 hf;omega
  ·omega
 ·have h:=hx.sL i hi
  have hw:=(hp.lnk i hi).most
  unfold Uz JZ
  cases hc:aN p s i
  ·have:=h.2.2 hc;rw [this];simp
  ·cases D (at' p.links i).a.toNat<;>cases D (at' p.links i).b.toNat<;>simp<;>omega
 ·have h:=hx.sR r hr
  have hv:=hp.rck r hr;have hw:=hv.power
  unfold Qh Kb R7
  cases D (at' p.racks r).feeds.e0.toNat<;>cases D (at' p.racks r).feeds.e1.toNat<;>by_cases h1:0≤(at' p.racks r).feeds.e1<;>simp [h1]<;>omega
theorem abw {D:Nat→Bool} (hD:Ki p s D):PS p x≤o6 p s D:=by
 obtain⟨h1,h2,h3⟩:=Zd hp hs hx hD
 rw [FY hp hs hx D]
 have:=xE h1;have:=xE h2;have:=xE h3
 unfold o6;omega
theorem SG {D:Nat→Bool} (hD:Ki p s D) (e:PS p x=o6 p s D):(∀k,k<p.sources.length→Xl p x D k=JX p s D k)∧(∀i,i<p.links.length→Uz p x D i=JZ p s D i)∧ ∀r,r<p.racks.length→Qh p x D r=Kb p D r:=by
 obtain⟨h1,h2,h3⟩:=Zd hp hs hx hD
 rw [FY hp hs hx D]at e
 have q1:=xE h1;have q2:=xE h2;have q3:=xE h3
 unfold o6 at e
 exact⟨xP h1 (by omega),xP h2 (by omega),xP h3 (by omega)⟩
theorem Mi {D:Nat→Bool} (h1: ∀k,k<p.sources.length→Xl p x D k=JX p s D k) (h2: ∀i,i<p.links.length→Uz p x D i=JZ p s D i) (h3: ∀r,r<p.racks.length→Qh p x D r=Kb p D r):PS p x=o6 p s D:=by
 rw [FY hp hs hx D]
 unfold o6
 rw [bR h1,bR h2,bR h3]
theorem Ps.adp:IJ p s x=true:=by
 unfold IJ
 have e1:F7 p x=true:=by unfold F7;simp [hx.l1,hx.l2,hx.l3]
 have e2:(List.range p.sources.length).any (Uc p s x)=false:=by
  rw [List.any_eq_false]
  intro k hk
  have h:=hx.sS k (List.mem_range.1 hk)
  unfold Uc
  rw [decide_eq_false (by omega),decide_eq_false (by omega)]
  cases hf:bC p s k
  ·rw [decide_eq_false (by have:=h.2.2 hf;omega)];simp
  ·simp
 have e3:(List.range p.links.length).any (TS p s x)=false:=by
  rw [List.any_eq_false]
  intro k hk
  have h:=hx.sL k (List.mem_range.1 hk)
  unfold TS
  rw [decide_eq_false (by omega),decide_eq_false (by omega)]
  cases hf:aN p s k
  ·rw [decide_eq_true (h.2.2 hf)];simp
  ·simp
 have e4:(List.range p.racks.length).any (TN p s x)=false:=by
  rw [List.any_eq_false]
  intro r hk
  have h:=hx.sR r (List.mem_range.1 hk)
  unfold TN Gu
  rw [decide_eq_false (show ¬ (at' x.racks r).e0<0 by omega),decide_eq_false (show ¬ (at' x.racks r).e1<0 by omega),decide_eq_false (show ¬ (at' p.racks r).power<(at' x.racks r).e0 by omega),decide_eq_false (show ¬ (at' p.racks r).power<(at' x.racks r).e1 by omega),decide_eq_false (show ¬ (at' p.racks r).power<(at' x.racks r).e0+(at' x.racks r).e1 by omega)]
  cases h0:iN s (at' p.racks r).feeds.e0<;>cases h1:iN s (at' p.racks r).feeds.e1
  ·rw [h.2.2.2.1 h0,h.2.2.2.2 h1];simp
  ·rw [h.2.2.2.1 h0];simp
  ·rw [h.2.2.2.2 h1];simp
  ·simp
 have e5:((List.range p.buses.toNat).all fun b=>decide (MB p x b=0))=true:=by
  rw [List.all_eq_true]
  intro b hb
  have:=List.mem_range.1 hb
  exact decide_eq_true (hx.bl b (by omega))
 rw [e1,e2,e3,e4,e5];rfl
end
theorem FB (f:Nat→Int): ∀m,aU (2*m) f=aU m fun j=>f (2*j)+f (2*j+1)
 |0=>rfl
 |m+1=>by rw [show 2*(m+1)=2*m+1+1 by omega,aU,aU,aU,FB f m];omega
theorem Rv (p:ah) (s:State) (g:Nat→Int) (o:Nat): ∀k,aU (o+sH p s k) g=aU o g+aU k fun r=>g (o+sH p s r)+(if iN s (at' p.racks r).feeds.e0=true then g (mW p s o r false)else 0)+(if iN s (at' p.racks r).feeds.e1=true then g (mW p s o r true)else 0)
 |0=>by simp [sH,aU]
 |k+1=>by
  have ih:=Rv p s g o k
  have e:aU (o+sH p s (k+1)) g=aU (o+sH p s k) g+(g (o+sH p s k)+(if iN s (at' p.racks k).feeds.e0=true then g (mW p s o k false)else 0)+(if iN s (at' p.racks k).feeds.e1=true then g (mW p s o k true)else 0)):=by
   rw [AP]
   unfold UF mW
   cases h0:iN s (at' p.racks k).feeds.e0<;>cases h1:iN s (at' p.racks k).feeds.e1<;>simp
   ·rw [show o+(sH p s k+1)=(o+sH p s k)+1 by omega,aU]
   ·rw [show o+(sH p s k+(1+1))=(o+sH p s k)+1+1 by omega,aU,aU];omega
   ·rw [show o+(sH p s k+(1+1))=(o+sH p s k)+1+1 by omega,aU,aU];omega
   ·rw [show o+(sH p s k+(1+1+1))=(o+sH p s k)+1+1+1 by omega,aU,aU,aU,show o+sH p s k+2=o+sH p s k+1+1 from rfl];omega
  rw [e,ih,aU];omega
theorem Ga {f:Nat→Bool}: ∀{k j:Nat},j<lC f k→ ∃i,i<k∧f i=true∧j=lC f i
 |0,j,h=>by simp [lC]at h
 |k+1,j,h=>by
  rw [EC]at h
  by_cases h2:j<lC f k
  ·obtain⟨i,h3,h4,h5⟩:=Ga h2
   exact⟨i,by omega,h4,h5⟩
  ·split at h
   ·rename_i hf;exact⟨k,by omega,hf,by omega⟩
   ·omega
theorem KM {p:ah} {s:State} {o:Nat}: ∀{k j:Nat},o≤j→j<o+sH p s k→ ∃r,r<k∧(j=o+sH p s r∨(iN s (at' p.racks r).feeds.e0=true∧j=mW p s o r false)∨(iN s (at' p.racks r).feeds.e1=true∧j=mW p s o r true))
 |0,j,h0,h=>by simp [sH]at h;omega
 |k+1,j,h0,h=>by
  rw [AP]at h
  by_cases h2:j<o+sH p s k
  ·obtain⟨i,h3,h4⟩:=KM h0 h2
   exact⟨i,by omega,h4⟩
  ·refine⟨k,by omega, ?_⟩
   unfold UF at h
   unfold mW
   cases e0:iN s (at' p.racks k).feeds.e0<;>cases e1:iN s (at' p.racks k).feeds.e1<;>simp [e0,e1]at h ⊢ <;>omega
section
variable {p:ah} {s:State} {m0 m1 m:Nat} {a b:List bg} {fr:List (List Int)} {R:Nat→Prop} {x:aA} {cut:List Bool}
theorem BN.j1 (h:BN p s m0 m1 m a b fr R x cut) {k:Nat} (hk:k<p.sources.length) (hf:bC p s k=true):lC (bC p s) k<m:=by
 have:=zB hk hf;have:=h.e0;have:=h.e1;have:=h.e2;omega
theorem BN.j2 (h:BN p s m0 m1 m a b fr R x cut) {k:Nat} (hk:k<p.links.length) (hf:aN p s k=true):m0+lC (aN p s) k<m:=by
 have:=zB hk hf;have:=h.e1;have:=h.e2;omega
theorem BN.j3 (h:BN p s m0 m1 m a b fr R x cut) {r:Nat} (hr:r<p.racks.length):m1+sH p s r<m:=by
 have:=Mq (p:=p) (s:=s) hr;have:=Qr p s r;have:=h.e2;omega
theorem BN.j4 (h:BN p s m0 m1 m a b fr R x cut) {r:Nat} (hr:r<p.racks.length) (c:Bool) (hf:iN s (if c=true then(at' p.racks r).feeds.e1 else(at' p.racks r).feeds.e0)=true):mW p s m1 r c<m:=by
 have:=VQ (o:=m1) c hf
 have:=Mq (p:=p) (s:=s) hr;have:=h.e2;omega
theorem BN.kinds (h:BN p s m0 m1 m a b fr R x cut) {j:Nat} (hj:j<m):
  (∃k,k<p.sources.length∧bC p s k=true∧j=lC (bC p s) k)∨(∃k,k<p.links.length∧aN p s k=true∧j=m0+lC (aN p s) k)∨
  ∃r,r<p.racks.length∧(j=m1+sH p s r∨(iN s (at' p.racks r).feeds.e0=true∧j=mW p s m1 r false)∨(iN s (at' p.racks r).feeds.e1=true∧j=mW p s m1 r true)):=by
 have e0:=h.e0;have e1:=h.e1;have e2:=h.e2
 by_cases h1:j<m0
 ·rw [e0]at h1;exact .inl (Ga h1)
 ·by_cases h2:j<m1
  ·obtain⟨k,g1,g2,g3⟩:=Ga (f:=aN p s) (k:=p.links.length) (j:=j - m0) (by omega)
   exact .inr (.inl ⟨k,g1,g2,by omega⟩)
  ·exact .inr (.inr (KM (by omega) (by omega)))
theorem BN.pair (h:BN p s m0 m1 m a b fr R x cut) {j u v:Nat} {t k:Int} (hP:Pr a j u v t k) (hj:j<m):tgt a (2*j)=v∧tgt a (2*j+1)=u∧tgt b (2*j)=v∧tgt b (2*j+1)=u∧iW a (2*j)=t∧iW a (2*j+1)=k∧iW b (2*j)+iW b (2*j+1)=t+k∧0≤iW b (2*j)∧0≤iW b (2*j+1):=by
 have t1:tgt a (2*j)=v:=by unfold tgt;rw [hP.1];rfl
 have t2:tgt a (2*j+1)=u:=by unfold tgt;rw [hP.2];rfl
 have l1:iW a (2*j)=t:=by unfold iW;rw [hP.1]
 have l2:iW a (2*j+1)=k:=by unfold iW;rw [hP.2]
 have:=h.sm.sum (2*j) (by omega)
 rw [mR,l1,l2]at this
 exact⟨t1,t2,(h.sm.tgt _).trans t1,(h.sm.tgt _).trans t2,l1,l2,this,h.sm.pos _ (by omega),h.sm.pos _ (by omega)⟩
def dl (a b:List bg) (j:Nat):Int:=iW b (2*j+1) - iW a (2*j+1)
theorem BN.flow (h:BN p s m0 m1 m a b fr R x cut) {v:Nat} (h0:v≠0) (h1:v≠1+p.buses.toNat+p.racks.length):
  let g:=fun j=>(if tgt a (2*j+1)=v then dl a b j else 0) - (if tgt a (2*j)=v then dl a b j else 0)
  (aU p.sources.length fun k=>if bC p s k=true then g (lC (bC p s) k)else 0)+(aU p.links.length fun k=>if aN p s k=true then g (m0+lC (aN p s) k)else 0)+(aU p.racks.length fun r=>g (m1+sH p s r)+(if iN s (at' p.racks r).feeds.e0=true then g (mW p s m1 r false)else 0)+(if iN s (at' p.racks r).feeds.e1=true then g (mW p s m1 r true)else 0))=0:=by
 intro g
 have e:aU m g=0:=by
  have hr:=h.res v h0 h1
  unfold om at hr
  rw [FB,FB]at hr
  have e1:aU m g=(aU m fun j=>(if tgt b (2*j)=v then iW b (2*j)else 0)+(if tgt b (2*j+1)=v then iW b (2*j+1)else 0)) - (aU m fun j=>(if tgt a (2*j)=v then iW a (2*j)else 0)+(if tgt a (2*j+1)=v then iW a (2*j+1)else 0)):=by
   rw [←EY]
   refine bR fun j hj=> ?_
   have hs:=h.sm.sum (2*j) (by omega)
   rw [mR]at hs
   show(if tgt a (2*j+1)=v then dl a b j else 0) - (if tgt a (2*j)=v then dl a b j else 0)=_
   rw [h.sm.tgt,h.sm.tgt]
   unfold dl
   by_cases c1:tgt a (2*j+1)=v<;>by_cases c2:tgt a (2*j)=v<;>simp only [c1,c2,if_true,if_false]<;>omega
  omega
 have d1:=Rv p s g m1 p.racks.length
 rw [←h.e2]at d1
 have d2:=MS (aN p s) g m0 p.links.length
 rw [←h.e1]at d2
 have d3:=MS (bC p s) g 0 p.sources.length
 rw [Nat.zero_add,←h.e0]at d3
 have d4:(aU p.sources.length fun i=>if bC p s i=true then g (0+lC (bC p s) i)else 0)=aU p.sources.length fun k=>if bC p s k=true then g (lC (bC p s) k)else 0:=bR fun i _=>by rw [Nat.zero_add]
 rw [d1,d2,d3,d4]at e
 simp only [aU]at e
 omega
variable (hp:VP p) (hs:VS p s)
include hp hs
theorem BN.xS (h:BN p s m0 m1 m a b fr R x cut) {k:Nat} (hk:k<p.sources.length):at' x.sources k=if bC p s k=true then dl a b (lC (bC p s) k)else 0:=by
 rw [h.xe]
 show at' (tab p.sources.length _) k=_
 rw [kg hk,Nat.zero_add]
 cases hf:bC p s k with
 |false=>rfl
 |true=>
  have:=h.pair (h.src k hk hf) (h.j1 hk hf)
  rw [if_pos rfl,if_pos rfl]
  unfold dl;omega
theorem BN.xL (h:BN p s m0 m1 m a b fr R x cut) {k:Nat} (hk:k<p.links.length):at' x.links k=if aN p s k=true then dl a b (m0+lC (aN p s) k)else 0:=by
 rw [h.xe]
 show at' (tab p.links.length _) k=_
 rw [kg hk]
 cases hf:aN p s k with
 |false=>rfl
 |true=>
  have:=h.pair (h.lnk k hk hf) (h.j2 hk hf)
  rw [if_pos rfl,if_pos rfl]
  unfold dl;omega
theorem BN.xR (h:BN p s m0 m1 m a b fr R x cut) {r:Nat} (hr:r<p.racks.length):(at' x.racks r).e0=(if iN s (at' p.racks r).feeds.e0=true then dl a b (mW p s m1 r false)else 0)∧(at' x.racks r).e1=(if iN s (at' p.racks r).feeds.e1=true then dl a b (mW p s m1 r true)else 0):=by
 have e:at' x.racks r=⟨if iN s (at' p.racks r).feeds.e0=true then iW b (2*mW p s m1 r false+1)else 0,if iN s (at' p.racks r).feeds.e1=true then iW b (2*mW p s m1 r true+1)else 0⟩:=by rw [h.xe];exact kg hr
 rw [e]
 obtain⟨_,q1,q2⟩:=h.rck r hr
 constructor
 ·show(if iN s (at' p.racks r).feeds.e0=true then iW b (2*mW p s m1 r false+1)else 0)=_
  cases hf:iN s (at' p.racks r).feeds.e0 with
  |false=>rfl
  |true=>
   have:=h.pair (q1 hf) (h.j4 hr false (by simpa using hf))
   rw [if_pos rfl,if_pos rfl]
   unfold dl;omega
 ·show(if iN s (at' p.racks r).feeds.e1=true then iW b (2*mW p s m1 r true+1)else 0)=_
  cases hf:iN s (at' p.racks r).feeds.e1 with
  |false=>rfl
  |true=>
   have:=h.pair (q2 hf) (h.j4 hr true (by simpa using hf))
   rw [if_pos rfl,if_pos rfl]
   unfold dl;omega
theorem BN.aaq (h:BN p s m0 m1 m a b fr R x cut) {r:Nat} (hr:r<p.racks.length):(at' x.racks r).e0+(at' x.racks r).e1=dl a b (m1+sH p s r):=by
 have hb:=hp.b
 have f:=h.flow (v:=1+p.buses.toNat+r) (by omega) (by omega)
 dsimp only at f
 have z1:(aU p.sources.length fun k=>if bC p s k=true then(if tgt a (2*lC (bC p s) k+1)=1+p.buses.toNat+r then dl a b (lC (bC p s) k)else 0) - (if tgt a (2*lC (bC p s) k)=1+p.buses.toNat+r then dl a b (lC (bC p s) k)else 0)else 0)=0:=by
  rw [bR (g:=fun _=>0) fun k hk=> ?_,nW]
  have hv:=(hp.src k hk).bus
  by_cases hf:bC p s k=true
  ·have:=h.pair (h.src k hk hf) (h.j1 hk hf)
   rw [if_pos hf,if_neg (by omega),if_neg (by omega)];rfl
  ·rw [if_neg hf]
 have z2:(aU p.links.length fun k=>if aN p s k=true then(if tgt a (2*(m0+lC (aN p s) k)+1)=1+p.buses.toNat+r then dl a b (m0+lC (aN p s) k)else 0) - (if tgt a (2*(m0+lC (aN p s) k))=1+p.buses.toNat+r then dl a b (m0+lC (aN p s) k)else 0)else 0)=0:=by
  rw [bR (g:=fun _=>0) fun k hk=> ?_,nW]
  have ha:=(hp.lnk k hk).a;have hbb:=(hp.lnk k hk).b
  by_cases hf:aN p s k=true
  ·have:=h.pair (h.lnk k hk hf) (h.j2 hk hf)
   rw [if_pos hf,if_neg (by omega),if_neg (by omega)];rfl
  ·rw [if_neg hf]
 rw [z1,z2,bR (g:=fun r'=>if r'=r then dl a b (m1+sH p s r) - ((at' x.racks r).e0+(at' x.racks r).e1)else 0) fun r' hr'=> ?_,HV (fun _=>dl a b (m1+sH p s r) - ((at' x.racks r).e0+(at' x.racks r).e1)) hr]at f
 ·omega
 ·obtain⟨q0,q1,q2⟩:=h.rck r' hr'
  have ha:=(hp.rck r' hr').e0;have hbb:=(hp.rck r' hr').e1
  have p0:=h.pair q0 (h.j3 hr')
  have x0:=h.xR hp hs hr'
  have c1:(if iN s (at' p.racks r').feeds.e0=true then(if tgt a (2*mW p s m1 r' false+1)=1+p.buses.toNat+r then dl a b (mW p s m1 r' false)else 0) - (if tgt a (2*mW p s m1 r' false)=1+p.buses.toNat+r then dl a b (mW p s m1 r' false)else 0)else 0)=if r'=r then - (at' x.racks r').e0 else 0:=by
   by_cases hf:iN s (at' p.racks r').feeds.e0=true
   ·have p1:=h.pair (q1 hf) (h.j4 hr' false (by simpa using hf))
    rw [if_pos hf,x0.1,if_pos hf,if_neg (show ¬ tgt a (2*mW p s m1 r' false+1)=1+p.buses.toNat+r by omega)]
    by_cases e:r'=r
    ·rw [if_pos (by omega),if_pos e];omega
    ·rw [if_neg (by omega),if_neg e];omega
   ·rw [if_neg hf,x0.1,if_neg hf];split<;>rfl
  have c2:(if iN s (at' p.racks r').feeds.e1=true then(if tgt a (2*mW p s m1 r' true+1)=1+p.buses.toNat+r then dl a b (mW p s m1 r' true)else 0) - (if tgt a (2*mW p s m1 r' true)=1+p.buses.toNat+r then dl a b (mW p s m1 r' true)else 0)else 0)=if r'=r then - (at' x.racks r').e1 else 0:=by
   by_cases hf:iN s (at' p.racks r').feeds.e1=true
   ·have p1:=h.pair (q2 hf) (h.j4 hr' true (by simpa using hf))
    rw [if_pos hf,x0.2,if_pos hf,if_neg (show ¬ tgt a (2*mW p s m1 r' true+1)=1+p.buses.toNat+r by omega)]
    by_cases e:r'=r
    ·rw [if_pos (by omega),if_pos e];omega
    ·rw [if_neg (by omega),if_neg e];omega
   ·rw [if_neg hf,x0.2,if_neg hf];split<;>rfl
  rw [c1,c2,if_neg (show ¬ tgt a (2*(m1+sH p s r'))=1+p.buses.toNat+r by omega)]
  by_cases e:r'=r
  ·subst e
   rw [if_pos (by omega),if_pos rfl,if_pos rfl,if_pos rfl];omega
  ·rw [if_neg (by omega),if_neg e,if_neg e,if_neg e];omega
theorem BN.ps (h:BN p s m0 m1 m a b fr R x cut):Ps p s x:=by
 have hb:=hp.b
 refine⟨by rw [h.xe];exact aV _ _,by rw [h.xe];exact aV _ _,by rw [h.xe];exact aV _ _,fun k hk=> ?_,fun k hk=> ?_,fun r hr=> ?_,fun v hv=> ?_⟩
 ·have hw:=(hp.src k hk).power
  rw [h.xS hp hs hk]
  by_cases hf:bC p s k=true
  ·have:=h.pair (h.src k hk hf) (h.j1 hk hf)
   rw [if_pos hf];unfold dl
   exact⟨by omega,by omega,fun q=>by rw [hf]at q;cases q⟩
  ·rw [if_neg hf];exact⟨by omega,by omega,fun _=>rfl⟩
 ·have hw:=(hp.lnk k hk).most
  rw [h.xL hp hs hk]
  by_cases hf:aN p s k=true
  ·have:=h.pair (h.lnk k hk hf) (h.j2 hk hf)
   rw [if_pos hf];unfold dl
   exact⟨by omega,by omega,fun q=>by rw [hf]at q;cases q⟩
  ·rw [if_neg hf];exact⟨by omega,by omega,fun _=>rfl⟩
 ·have hw:=(hp.rck r hr).power
  obtain⟨q0,q1,q2⟩:=h.rck r hr
  have p0:=h.pair q0 (h.j3 hr)
  have x0:=h.xR hp hs hr
  have x1:=h.aaq hp hs hr
  have b0:0≤(at' x.racks r).e0:=by
   rw [x0.1]
   by_cases hf:iN s (at' p.racks r).feeds.e0=true
   ·have:=h.pair (q1 hf) (h.j4 hr false (by simpa using hf))
    rw [if_pos hf];unfold dl;omega
   ·rw [if_neg hf];omega
  have b1:0≤(at' x.racks r).e1:=by
   rw [x0.2]
   by_cases hf:iN s (at' p.racks r).feeds.e1=true
   ·have:=h.pair (q2 hf) (h.j4 hr true (by simpa using hf))
    rw [if_pos hf];unfold dl;omega
   ·rw [if_neg hf];omega
  refine⟨b0,b1,by rw [x1];unfold dl;omega,fun q=> ?_,fun q=> ?_⟩
  ·rw [x0.1,q];rfl
  ·rw [x0.2,q];rfl
 ·have f:=h.flow (v:=1+v) (by omega) (by omega)
  dsimp only at f
  rw [bR (n:=p.sources.length) (g:=fun k=> - NU p x v k) fun k hk=> ?_,bR (n:=p.links.length) (g:=fun k=> - Kk p x v k) fun k hk=> ?_,bR (n:=p.racks.length) (g:=fun r=>J2 p x v r) fun r hr=> ?_,EJ,EJ]at f
  ·unfold MB;show _+_ - aU _ (fun r=>J2 p x v r)=0;omega
  ·obtain⟨q0,q1,q2⟩:=h.rck r hr
   have ha:=(hp.rck r hr).e0;have hbb:=(hp.rck r hr).e1
   have p0:=h.pair q0 (h.j3 hr)
   have x0:=h.xR hp hs hr
   unfold J2
   rw [if_neg (show ¬ tgt a (2*(m1+sH p s r)+1)=1+v by omega),if_neg (show ¬ tgt a (2*(m1+sH p s r))=1+v by omega)]
   have c1:(if iN s (at' p.racks r).feeds.e0=true then(if tgt a (2*mW p s m1 r false+1)=1+v then dl a b (mW p s m1 r false)else 0) - (if tgt a (2*mW p s m1 r false)=1+v then dl a b (mW p s m1 r false)else 0)else 0)=if(at' p.racks r).feeds.e0=(v:Int)then(at' x.racks r).e0 else 0:=by
    by_cases hf:iN s (at' p.racks r).feeds.e0=true
    ·have p1:=h.pair (q1 hf) (h.j4 hr false (by simpa using hf))
     rw [if_pos hf,x0.1,if_pos hf,if_neg (show ¬ tgt a (2*mW p s m1 r false)=1+v by omega)]
     by_cases e:(at' p.racks r).feeds.e0=(v:Int)
     ·rw [if_pos (by omega),if_pos e];omega
     ·rw [if_neg (by omega),if_neg e];omega
    ·rw [if_neg hf,x0.1,if_neg hf];split<;>rfl
   have c2:(if iN s (at' p.racks r).feeds.e1=true then(if tgt a (2*mW p s m1 r true+1)=1+v then dl a b (mW p s m1 r true)else 0) - (if tgt a (2*mW p s m1 r true)=1+v then dl a b (mW p s m1 r true)else 0)else 0)=if(at' p.racks r).feeds.e1=(v:Int)then(at' x.racks r).e1 else 0:=by
    by_cases hf:iN s (at' p.racks r).feeds.e1=true
    ·have p1:=h.pair (q2 hf) (h.j4 hr true (by simpa using hf))
     have hf0:0≤(at' p.racks r).feeds.e1:=by unfold iN at hf;rw [Bool.and_eq_true,decide_eq_true_eq]at hf;exact hf.1
     rw [if_pos hf,x0.2,if_pos hf,if_neg (show ¬ tgt a (2*mW p s m1 r true)=1+v by omega)]
     by_cases e:(at' p.racks r).feeds.e1=(v:Int)
     ·rw [if_pos (by omega),if_pos e];omega
     ·rw [if_neg (by omega),if_neg e];omega
    ·rw [if_neg hf,x0.2,if_neg hf];split<;>rfl
   rw [c1,c2];omega
  ·have ha:=(hp.lnk k hk).a;have hbb:=(hp.lnk k hk).b;have hne:=(hp.lnk k hk).ab
   unfold Kk
   rw [h.xL hp hs hk]
   by_cases hf:aN p s k=true
   ·have:=h.pair (h.lnk k hk hf) (h.j2 hk hf)
    rw [if_pos hf,if_pos hf]
    by_cases e1:(at' p.links k).a=(v:Int)
    ·rw [if_pos (by omega),if_neg (by omega),if_neg (by omega),if_pos e1];omega
    ·rw [if_neg (by omega),if_neg (show ¬ (at' p.links k).a=(v:Int)from e1)]
     by_cases e2:(at' p.links k).b=(v:Int)
     ·rw [if_pos (by omega),if_pos e2];omega
     ·rw [if_neg (by omega),if_neg e2];omega
   ·rw [if_neg hf,if_neg hf];simp
  ·have hbus:=(hp.src k hk).bus
   unfold NU
   rw [h.xS hp hs hk]
   by_cases hf:bC p s k=true
   ·have:=h.pair (h.src k hk hf) (h.j1 hk hf)
    rw [if_pos hf,if_pos hf,if_neg (show ¬ tgt a (2*lC (bC p s) k+1)=1+v by omega)]
    by_cases e1:(at' p.sources k).bus=(v:Int)
    ·rw [if_pos (by omega),if_pos e1];omega
    ·rw [if_neg (by omega),if_neg e1];omega
   ·rw [if_neg hf,if_neg hf];simp
end
section
variable {p:ah} {s:State} {m0 m1 m:Nat} {a b:List bg} {fr:List (List Int)} {R:Nat→Prop} {x:aA} {cut:List Bool} (hp:VP p) (hs:VS p s) (h:BN p s m0 m1 m a b fr R x cut)
include hp hs h
theorem BN.go (K:Nat→Prop)
  (hS: ∀k,k<p.sources.length→bC p s k=true→(K 0→at' x.sources k<(at' p.sources k).power→K (1+(at' p.sources k).bus.toNat))∧(K (1+(at' p.sources k).bus.toNat)→0<at' x.sources k→K 0))
  (hL: ∀k,k<p.links.length→aN p s k=true→(K (1+(at' p.links k).a.toNat)→at' x.links k<(at' p.links k).most→K (1+(at' p.links k).b.toNat))∧(K (1+(at' p.links k).b.toNat)→ -(at' p.links k).most<at' x.links k→K (1+(at' p.links k).a.toNat)))
  (hR: ∀r,r<p.racks.length→(K (1+p.buses.toNat+r)→(at' x.racks r).e0+(at' x.racks r).e1<(at' p.racks r).power→K (1+p.buses.toNat+p.racks.length))∧(K (1+p.buses.toNat+p.racks.length)→K (1+p.buses.toNat+r))∧
   (iN s (at' p.racks r).feeds.e0=true→(K (1+(at' p.racks r).feeds.e0.toNat)→(at' x.racks r).e0<(at' p.racks r).power→K (1+p.buses.toNat+r))∧(K (1+p.buses.toNat+r)→0<(at' x.racks r).e0→K (1+(at' p.racks r).feeds.e0.toNat)))∧
   (iN s (at' p.racks r).feeds.e1=true→(K (1+(at' p.racks r).feeds.e1.toNat)→(at' x.racks r).e1<(at' p.racks r).power→K (1+p.buses.toNat+r))∧(K (1+p.buses.toNat+r)→0<(at' x.racks r).e1→K (1+(at' p.racks r).feeds.e1.toNat)))):XO m b K:=by
 intro i hi hl hK
 obtain⟨j,hj⟩: ∃j,i=2*j∨i=2*j+1:=⟨i / 2,by omega⟩
 have hjm:j<m:=by omega
 rcases h.kinds hjm with⟨k,hk,hf,rfl⟩|⟨k,hk,hf,rfl⟩|⟨r,hr,hc⟩
 ·have q:=h.pair (h.src k hk hf) hjm
  have xe:=h.xS hp hs hk
  rw [if_pos hf]at xe
  unfold dl at xe
  rcases hj with rfl|rfl
  ·rw [mR,q.2.2.2.1]at hK
   rw [q.2.2.1]
   exact(hS k hk hf).1 hK (by omega)
  ·rw [Bo,q.2.2.1]at hK
   rw [q.2.2.2.1]
   exact(hS k hk hf).2 hK (by omega)
 ·have q:=h.pair (h.lnk k hk hf) hjm
  have xe:=h.xL hp hs hk
  rw [if_pos hf]at xe
  unfold dl at xe
  rcases hj with rfl|rfl
  ·rw [mR,q.2.2.2.1]at hK
   rw [q.2.2.1]
   exact(hL k hk hf).1 hK (by omega)
  ·rw [Bo,q.2.2.1]at hK
   rw [q.2.2.2.1]
   exact(hL k hk hf).2 hK (by omega)
 ·obtain⟨q0,q1,q2⟩:=h.rck r hr
  obtain⟨x0,x1⟩:=h.xR hp hs hr
  have xr:=h.aaq hp hs hr
  obtain⟨g1,g2,g3,g4⟩:=hR r hr
  rcases hc with rfl|⟨hf,rfl⟩|⟨hf,rfl⟩
  ·have q:=h.pair q0 hjm
   unfold dl at xr
   rcases hj with rfl|rfl
   ·rw [mR,q.2.2.2.1]at hK
    rw [q.2.2.1]
    exact g1 hK (by omega)
   ·rw [Bo,q.2.2.1]at hK
    rw [q.2.2.2.1]
    exact g2 hK
  ·have q:=h.pair (q1 hf) hjm
   rw [if_pos hf]at x0
   unfold dl at x0
   rcases hj with rfl|rfl
   ·rw [mR,q.2.2.2.1]at hK
    rw [q.2.2.1]
    exact(g3 hf).1 hK (by omega)
   ·rw [Bo,q.2.2.1]at hK
    rw [q.2.2.2.1]
    exact(g3 hf).2 hK (by omega)
  ·have q:=h.pair (q2 hf) hjm
   rw [if_pos hf]at x1
   unfold dl at x1
   rcases hj with rfl|rfl
   ·rw [mR,q.2.2.2.1]at hK
    rw [q.2.2.1]
    exact(g4 hf).1 hK (by omega)
   ·rw [Bo,q.2.2.1]at hK
    rw [q.2.2.2.1]
    exact(g4 hf).2 hK (by omega)
theorem QM {k:Nat} (hf:bC p s k=true):at' s.badBus (at' p.sources k).bus.toNat=false:=by
 unfold bC at hf;simp only [Bool.and_eq_true,Bool.not_eq_true']at hf;exact hf.2
theorem Iu {k:Nat} (hf:aN p s k=true):at' s.badBus (at' p.links k).a.toNat=false∧at' s.badBus (at' p.links k).b.toNat=false:=by
 unfold aN at hf;simp only [Bool.and_eq_true,Bool.not_eq_true']at hf;exact⟨hf.1.2,hf.2⟩
theorem D6 {v:Int} (hf:iN s v=true):0≤v∧at' s.badBus v.toNat=false:=by
 unfold iN at hf;simp only [Bool.and_eq_true,Bool.not_eq_true',decide_eq_true_eq]at hf;exact hf
theorem BN.right:Ki p s (at' cut):=by
 have hb:=hp.b
 intro v hv hc
 have hR:=(h.ct v hv).1 hc
 have key:=h.mn (fun w=> ∀u:Nat,(u:Int)<p.buses→w=1+u→at' s.badBus u=false) ?_ (fun u _ e=>by omega) _ hR v hv (by omega)
 ·exact key
 ·refine h.go hp hs _ (fun k hk hf=> ⟨fun _ _ u hu e=> ?_,fun _ _ u hu e=>by omega⟩) (fun k hk hf=> ⟨fun _ _ u hu e=> ?_,fun _ _ u hu e=> ?_⟩) (fun r hr=> ⟨fun _ _ u hu e=>by omega,fun _ u hu e=>by omega,fun hf=> ⟨fun _ _ u hu e=>by omega,fun _ _ u hu e=> ?_⟩,fun hf=> ⟨fun _ _ u hu e=>by omega,fun _ _ u hu e=> ?_⟩⟩)
  ·have:=QM hp hs h hf
   have e2:u=(at' p.sources k).bus.toNat:=by omega
   rw [e2];exact this
  ·have e2:u=(at' p.links k).b.toNat:=by omega
   rw [e2];exact(Iu hp hs h hf).2
  ·have e2:u=(at' p.links k).a.toNat:=by omega
   rw [e2];exact(Iu hp hs h hf).1
  ·have e2:u=(at' p.racks r).feeds.e0.toNat:=by omega
   rw [e2];exact(D6 hp hs h hf).2
  ·have e2:u=(at' p.racks r).feeds.e1.toNat:=by omega
   rw [e2];exact(D6 hp hs h hf).2
theorem BN.adz {k:Nat} (hk:k<p.sources.length) (hf:bC p s k=true) (hc:at' cut (at' p.sources k).bus.toNat=false):at' x.sources k=(at' p.sources k).power:=by
 have hbus:=(hp.src k hk).bus
 have hj:=h.j1 hk hf
 have q:=h.pair (h.src k hk hf) hj
 have xe:=h.xS hp hs hk
 rw [if_pos hf]at xe
 unfold dl at xe
 refine Decidable.byContradiction fun hn=> ?_
 have:=h.clo (2*lC (bC p s) k) (by omega) (by omega) (by rw [mR,q.2.2.2.1];exact h.r0)
 rw [q.2.2.1,Nat.add_comm,←h.ct _ (by omega),hc]at this
 cases this
theorem BN.adN {k:Nat} (hk:k<p.links.length) (hf:aN p s k=true):(at' cut (at' p.links k).a.toNat=true→at' cut (at' p.links k).b.toNat=false→at' x.links k=(at' p.links k).most)∧(at' cut (at' p.links k).b.toNat=true→at' cut (at' p.links k).a.toNat=false→at' x.links k= -(at' p.links k).most):=by
 have hl:=hp.lnk k hk;have ha:=hl.a;have hb:=hl.b
 have hj:=h.j2 hk hf
 have q:=h.pair (h.lnk k hk hf) hj
 have xe:=h.xL hp hs hk
 rw [if_pos hf]at xe
 unfold dl at xe
 refine⟨fun c1 c2=>Decidable.byContradiction fun hn=> ?_,fun c1 c2=>Decidable.byContradiction fun hn=> ?_⟩
 ·have:=h.clo (2*(m0+lC (aN p s) k)) (by omega) (by omega) (by rw [mR,q.2.2.2.1,Nat.add_comm];exact(h.ct _ (by omega)).1 c1)
  rw [q.2.2.1,Nat.add_comm,←h.ct _ (by omega),c2]at this
  cases this
 ·have:=h.clo (2*(m0+lC (aN p s) k)+1) (by omega) (by omega) (by rw [Bo,q.2.2.1,Nat.add_comm];exact(h.ct _ (by omega)).1 c1)
  rw [q.2.2.2.1,Nat.add_comm,←h.ct _ (by omega),c2]at this
  cases this
theorem BN.tight:(∀k,k<p.sources.length→Xl p x (at' cut) k=JX p s (at' cut) k)∧(∀i,i<p.links.length→Uz p x (at' cut) i=JZ p s (at' cut) i)∧ ∀r,r<p.racks.length→Qh p x (at' cut) r=Kb p (at' cut) r:=by
 have hps:=h.ps hp hs
 have hrt:=h.right hp hs
 refine⟨fun k hk=> ?_,fun i hi=> ?_,fun r hr=> ?_⟩
 ·unfold Xl JX
  cases hc:at' cut (at' p.sources k).bus.toNat with
  |true=>simp
  |false=>
   cases hf:bC p s k with
   |true=>simp;exact h.adz hp hs hk hf hc
   |false=>simp;exact(hps.sS k hk).2.2 hf
 ·unfold Uz JZ
  cases hf:aN p s i with
  |false=>rw [(hps.sL i hi).2.2 hf];simp
  |true=>
   obtain⟨g1,g2⟩:=h.adN hp hs hi hf
   cases ca:at' cut (at' p.links i).a.toNat<;>cases cb:at' cut (at' p.links i).b.toNat<;>simp
   ·have:=g2 cb ca;omega
   ·exact g1 ca cb
 ·have hv:=hp.rck r hr;have ha:=hv.e0;have hb:=hv.e1;have hw:=hv.power
  obtain⟨w1,w2,w3,w4,w5⟩:=hps.sR r hr
  obtain⟨q0,q1,q2⟩:=h.rck r hr
  obtain⟨x0,x1⟩:=h.xR hp hs hr
  have xr:=h.aaq hp hs hr
  unfold dl at xr
  have pr:=h.pair q0 (h.j3 hr)
  have hjr:=h.j3 hr
  unfold Qh Kb R7
  have full:R (1+p.buses.toNat+r)→(at' x.racks r).e0+(at' x.racks r).e1=(at' p.racks r).power:=fun hR=>Decidable.byContradiction fun hn=>by
   have:=h.clo (2*(m1+sH p s r)) (by omega) (by omega) (by rw [mR,pr.2.2.2.1];exact hR)
   rw [pr.2.2.1]at this
   exact h.rs this
  have f0:at' cut (at' p.racks r).feeds.e0.toNat=true→iN s (at' p.racks r).feeds.e0=true:=fun hc=>Zi hp hs hrt ha hc
  have f1:0≤(at' p.racks r).feeds.e1→at' cut (at' p.racks r).feeds.e1.toNat=true→iN s (at' p.racks r).feeds.e1=true:=fun h0 hc=>Zi hp hs hrt ⟨h0,hb.2⟩ hc
  have in0:at' cut (at' p.racks r).feeds.e0.toNat=true→(at' x.racks r).e0=(at' p.racks r).power∨R (1+p.buses.toNat+r):=fun hc=>by
   have hf:=f0 hc
   have hj:=h.j4 hr false (by simpa using hf)
   have q:=h.pair (q1 hf) hj
   rw [if_pos hf]at x0
   unfold dl at x0
   by_cases hn:(at' x.racks r).e0=(at' p.racks r).power
   ·exact .inl hn
   ·have:=h.clo (2*mW p s m1 r false) (by omega) (by omega) (by rw [mR,q.2.2.2.1,Nat.add_comm];exact(h.ct _ (by omega)).1 hc)
    rw [q.2.2.1]at this
    exact .inr this
  have in1:0≤(at' p.racks r).feeds.e1→at' cut (at' p.racks r).feeds.e1.toNat=true→(at' x.racks r).e1=(at' p.racks r).power∨R (1+p.buses.toNat+r):=fun h0 hc=>by
   have hf:=f1 h0 hc
   have hj:=h.j4 hr true (by simpa using hf)
   have q:=h.pair (q2 hf) hj
   rw [if_pos hf]at x1
   unfold dl at x1
   by_cases hn:(at' x.racks r).e1=(at' p.racks r).power
   ·exact .inl hn
   ·have:=h.clo (2*mW p s m1 r true) (by omega) (by omega) (by rw [mR,q.2.2.2.1,Nat.add_comm];exact(h.ct _ (by omega)).1 hc)
    rw [q.2.2.1]at this
    exact .inr this
  have out0:R (1+p.buses.toNat+r)→at' cut (at' p.racks r).feeds.e0.toNat=false→(at' x.racks r).e0=0:=fun hR hc=>by
   cases hf:iN s (at' p.racks r).feeds.e0 with
   |false=>exact w4 hf
   |true=>
    have hj:=h.j4 hr false (by simpa using hf)
    have q:=h.pair (q1 hf) hj
    rw [if_pos hf]at x0
    unfold dl at x0
    refine Decidable.byContradiction fun hn=> ?_
    have:=h.clo (2*mW p s m1 r false+1) (by omega) (by omega) (by rw [Bo,q.2.2.1];exact hR)
    rw [q.2.2.2.1,Nat.add_comm,←h.ct _ (by omega),hc]at this
    cases this
  have out1:R (1+p.buses.toNat+r)→(0≤(at' p.racks r).feeds.e1→at' cut (at' p.racks r).feeds.e1.toNat=false)→(at' x.racks r).e1=0:=fun hR hc=>by
   cases hf:iN s (at' p.racks r).feeds.e1 with
   |false=>exact w5 hf
   |true=>
    have h0:=(D6 hp hs h hf).1
    have hj:=h.j4 hr true (by simpa using hf)
    have q:=h.pair (q2 hf) hj
    rw [if_pos hf]at x1
    unfold dl at x1
    refine Decidable.byContradiction fun hn=> ?_
    have:=h.clo (2*mW p s m1 r true+1) (by omega) (by omega) (by rw [Bo,q.2.2.1];exact hR)
    rw [q.2.2.2.1,Nat.add_comm,←h.ct _ (by omega),hc h0]at this
    cases this
  by_cases h0:0≤(at' p.racks r).feeds.e1
  ·cases c0:at' cut (at' p.racks r).feeds.e0.toNat<;>cases c1:at' cut (at' p.racks r).feeds.e1.toNat<;>simp [h0]
   ·rcases in1 h0 c1 with e|e
    ·exact e
    ·have:=full e;have:=out0 e c0;omega
   ·rcases in0 c0 with e|e
    ·exact e
    ·have:=full e;have:=out1 e (fun _=>c1);omega
   ·rcases in0 c0 with e|e
    ·rcases in1 h0 c1 with e'|e'
     ·omega
     ·exact full e'
    ·exact full e
  ·cases c0:at' cut (at' p.racks r).feeds.e0.toNat<;>simp [h0]
   rcases in0 c0 with e|e
   ·exact e
   ·have:=full e;have:=out1 e (fun q=>absurd q h0);omega
theorem BN.agH:PS p x=o6 p s (at' cut):=by
 obtain⟨h1,h2,h3⟩:=h.tight hp hs
 exact Mi hp hs (h.ps hp hs) h1 h2 h3
theorem BN.least {D:Nat→Bool} (hD:Ki p s D) (e:PS p x=o6 p s D) {v:Nat} (hv:(v:Int)<p.buses) (hc:at' cut v=true):D v=true:=by
 have hb:=hp.b
 have hps:=h.ps hp hs
 obtain⟨t1,t2,t3⟩:=SG hp hs hps hD e
 have hR:=(h.ct v hv).1 hc
 have key:=h.mn (fun w=>(∀u:Nat,(u:Int)<p.buses→w=1+u→D u=true)∧(∀r,r<p.racks.length→w=1+p.buses.toNat+r→R7 p D r=true)∧w≠1+p.buses.toNat+p.racks.length) ?_ ⟨fun u _ e=>by omega,fun u _ e=>by omega,by omega⟩ _ hR
 ·exact key.1 v hv (by omega)
 ·refine h.go hp hs _ (fun k hk hf=> ?_) (fun k hk hf=> ?_) (fun r hr=> ?_)
  ·have hbus:=(hp.src k hk).bus
   refine⟨fun _ hl=> ⟨fun u hu e=> ?_,fun r hr e=>by omega,by omega⟩,fun _ _=> ⟨fun u _ e=>by omega,fun u _ e=>by omega,by omega⟩⟩
   have e2:u=(at' p.sources k).bus.toNat:=by omega
   have t:=t1 k hk
   unfold Xl JX at t
   rw [e2]
   cases hc:D (at' p.sources k).bus.toNat with
   |true=>rfl
   |false=>rw [hc,hf]at t;simp at t;omega
  ·have ha:=(hp.lnk k hk).a;have hbb:=(hp.lnk k hk).b
   have t:=t2 k hk
   unfold Uz JZ at t
   refine⟨fun hK hl=> ⟨fun u hu e=> ?_,fun r hr e=>by omega,by omega⟩,fun hK hl=> ⟨fun u hu e=> ?_,fun r hr e=>by omega,by omega⟩⟩
   ·have e2:u=(at' p.links k).b.toNat:=by omega
    have hA:=hK.1 (at' p.links k).a.toNat (by omega) rfl
    rw [e2]
    cases hc:D (at' p.links k).b.toNat with
    |true=>rfl
    |false=>rw [hc,hf,hA]at t;simp at t;omega
   ·have e2:u=(at' p.links k).a.toNat:=by omega
    have hB:=hK.1 (at' p.links k).b.toNat (by omega) rfl
    rw [e2]
    cases hc:D (at' p.links k).a.toNat with
    |true=>rfl
    |false=>rw [hc,hf,hB]at t;simp at t;omega
  ·have hv:=hp.rck r hr;have ha:=hv.e0;have hbb:=hv.e1;have hw:=hv.power
   have t:=t3 r hr
   obtain⟨w1,w2,w3,w4,w5⟩:=hps.sR r hr
   refine⟨fun hK hl=> ?_,fun hK=>absurd rfl hK.2.2,fun hf=> ⟨fun hK hl=> ⟨fun u hu e=>by omega,fun r' hr' e=> ?_,by omega⟩,fun hK hl=> ⟨fun u hu e=> ?_,fun r' hr' e=>by omega,by omega⟩⟩,fun hf=> ?_⟩
   ·have hC:=hK.2.1 r hr rfl
    unfold Qh Kb at t
    rw [hC,if_pos rfl]at t
    exfalso
    revert t
    split<;>split<;>omega
   ·have e2:r'=r:=by omega
    rw [e2]
    unfold R7
    rw [hK.1 (at' p.racks r).feeds.e0.toNat (by omega) rfl];rfl
   ·have hC:=hK.2.1 r hr rfl
    have e2:u=(at' p.racks r).feeds.e0.toNat:=by omega
    unfold Qh Kb at t
    rw [hC,if_pos rfl]at t
    rw [e2]
    cases hc:D (at' p.racks r).feeds.e0.toNat with
    |true=>rfl
    |false=>
     exfalso
     rw [hc,if_neg (by simp)]at t
     revert t
     split<;>omega
   ·have h0:=(D6 hp hs h hf).1
    refine⟨fun hK hl=> ⟨fun u hu e=>by omega,fun r' hr' e=> ?_,by omega⟩,fun hK hl=> ⟨fun u hu e=> ?_,fun r' hr' e=>by omega,by omega⟩⟩
    ·have e2:r'=r:=by omega
     rw [e2]
     unfold R7
     rw [hK.1 (at' p.racks r).feeds.e1.toNat (by omega) rfl,decide_eq_true h0];simp
    ·have hC:=hK.2.1 r hr rfl
     have e2:u=(at' p.racks r).feeds.e1.toNat:=by omega
     unfold Qh Kb at t
     rw [hC,if_pos rfl]at t
     rw [e2]
     cases hc:D (at' p.racks r).feeds.e1.toNat with
     |true=>rfl
     |false=>
      exfalso
      rw [hc,if_neg (by simp: ¬ (0≤(at' p.racks r).feeds.e1∧(false:Bool)=true))]at t
      revert t
      split<;>omega
end
structure Sv (p:ah) (s:State) (x:aA) (cut:List Bool):Prop where
 ps:Ps p s x
 cl:cut.length=p.buses.toNat
 rt:Ki p s (at' cut)
 eq:PS p x=o6 p s (at' cut)
 least: ∀D,Ki p s D→PS p x=o6 p s D→ ∀v:Nat,(v:Int)<p.buses→at' cut v=true→D v=true
theorem Om {p:ah} {s:State} (hp:VP p) (hs:VS p s): ∃x cut,bN p s=some (x,cut,0)∧Sv p s x cut:=by
 obtain⟨m0,m1,m,a,b,fr,R,x,cut,e,h⟩:=S9 hp hs
 exact⟨x,cut,e,h.ps hp hs,h.cl,h.right hp hs,h.agH hp hs,fun D hD e v hv hc=>h.least hp hs hD e hv hc⟩
theorem TD {p:ah} {s:State} (hsm:Small p) (h:iy p s≠0):bN p s=some (⟨[],[],[]⟩,[],iy p s):=by
 unfold bN
 rw [kD p s hsm,Option.bind_some,decide_eq_false h];rfl
theorem XH:fF=some true:=by kernel_rfl
section
variable {p:ah} {s:State} (hp:VP p) (hs:VS p s)
include hp hs
theorem Ps.amount {x:aA} (h:Ps p s x):gX x=some (PS p x):=by
 have hrl:=hp.rl
 rw [Fv (by rw [h.l3];omega),RL (fun r hr=> ?_) (by rw [h.l3];omega) _ (Nat.le_refl _),h.l3]
 ·rfl
 ·rw [h.l3]at hr
  have:=h.sR r hr
  have:=(hp.rck r hr).power
  omega
theorem Ps.IL {x:aA} (h:Ps p s x):IL x x.racks.length=PS p x:=by
 have hrl:=hp.rl
 have h1:=h.amount hp hs
 rw [Fv (by rw [h.l3];omega)]at h1
 exact Option.some.inj h1
theorem QE {cut:List Bool} (hl:cut.length=p.buses.toNat) (hr:Ki p s (at' cut)):Fs p s cut=(o6 p s (at' cut),0):=by
 have hb:=hp.b
 unfold Fs
 rw [if_pos (eG.mpr ⟨hp,hs⟩),if_pos (by omega),if_neg]
 rw [List.any_eq_true]
 rintro ⟨b,hb2,hc⟩
 rw [Bool.and_eq_true]at hc
 have:=List.mem_range.1 hb2
 have:=hr b (by omega) hc.1
 rw [hc.2]at this;cases this
theorem Sv.cert {x:aA} {cut:List Bool} (h:Sv p s x cut):nQ p s x cut=some 0:=by
 have hrl:=hp.rl
 rw [Ir hp.small s x (by rw [h.ps.l3];omega)]
 unfold Pt Ct
 rw [if_pos (eG.mpr ⟨hp,hs⟩),if_pos (h.ps.adp hp hs),if_pos rfl,QE hp hs h.cl h.rt,if_pos rfl,h.ps.IL hp hs,h.eq,if_pos rfl]
end
theorem AB {α:Type} [Inhabited α] {ρ:Type} {body:Int→Option (aM Int (Ex Unit ρ))} (l:List α) (hl:l.length≤9223372036854775807) (hb: ∀t:Nat,t<l.length→body (t:Int)=some (.next ((t:Int)+1))) (he:body (l.length:Int)=some (.done (.brk ()))):ay body FUEL 0=some (.brk ()):=
 aY (fun t=>(t:Int)) l.length _ (fuel_lt hl) (fun t ht=>by rw [hb t ht];rfl) he
theorem je (a b:List Bool) (ha:a.length≤9223372036854775807):bT a b=some (decide (a=b)):=by
 unfold bT
 by_cases hl:a.length=b.length
 ·have h1:decide ((a.length:Int)=(b.length:Int))=true:=decide_eq_true (by omega)
  rw [h1]
  simp only [Bool.not_true,cond_false]
  have key:ay (kF a b) FUEL 0=some (match(List.range a.length).find? (fun i=> !(at' a i==at' b i))with|some _=> .ret false|none=> .brk ()):=by
   refine iA a.length (fun i=> !(at' a i==at' b i)) (fun _=>false) ha (fun i hi=> ?_) ?_
   ·unfold kF
    have h1:decide ((i:Int)<(a.length:Int))=true:=decide_eq_true (by omega)
    rw [h1,cond_true,ai (by omega),Int.toNat_natCast,wr (by omega)]
    exact Be _ _ _
   ·unfold kF;simp
  rw [key]
  cases hf:(List.range a.length).find? (fun i=> !(at' a i==at' b i))with
  |none=>
   rw [List.find?_eq_none]at hf
   have:a=b:=Dl hl fun i hi=>by
    have:=hf i (List.mem_range.mpr hi);simpa using this
   simp [this]
  |some k=>
   have hk:=List.mem_of_find?_eq_some hf
   have hp:=List.find?_some hf
   have:a≠b:=by intro e;subst e;simp at hp
   simp [this]
 ·have h1:decide ((a.length:Int)=(b.length:Int))=false:=decide_eq_false (by omega)
  have h2:a≠b:=fun e=>hl (by rw [e])
  rw [h1];simp [h2]
structure Rw (s:State):Prop where
 l0:s.closed.length≤140737488351232
 l1:s.locked.length≤140737488351232
 l2:s.badLink.length≤140737488351232
 l3:s.on_.length≤140737488351232
 l4:s.badSource.length≤140737488351232
 l5:s.earthed.length≤140737488351232
 l6:s.badBus.length≤140737488351232
theorem iL (l:List Bool) (h:l.length≤140737488351232):dM l=some l:=by
 unfold dM;rw [ai (by omega)]
theorem Jk (s:State) (h:Rw s):pW s=some s:=by
 obtain⟨h0,h1,h2,h3,h4,h5,h6⟩:=h
 unfold pW
 rw [iL _ h0,iL _ h1,iL _ h2,iL _ h3,iL _ h4,iL _ h5,iL _ h6]
 rfl
theorem JP (a:State) (h:Rw a):pY a a=some true:=by
 obtain⟨h0,h1,h2,h3,h4,h5,h6⟩:=h
 unfold pY
 rw [je _ _ (by omega),je _ _ (by omega),je _ _ (by omega),je _ _ (by omega),je _ _ (by omega),je _ _ (by omega),je _ _ (by omega)]
 simp [gB]
theorem Kr (x:Link) (h:x.trip.length≤8796093021952):qK x=some x:=by
 unfold qK uL
 rw [ai (by omega)];rfl
theorem Iw (p:ah) (h1:p.sources.length≤60) (h2:p.links.length≤60) (h3:p.racks.length≤60) (h4: ∀x∈p.links,x.trip.length≤8796093021952):qa p=some p:=by
 have key:ay (gL p.links) FUEL (p.links.take 0,((0:Nat):Int))=some (.brk (p.links.take p.links.length)):=by
  refine aY (body:=gL p.links) (fun t=>(p.links.take t,(t:Int))) p.links.length _ (fuel_lt (by omega)) (fun t ht=> ?_) ?_
  ·unfold gL
   have d1:decide ((t:Int)<(p.links.length:Int))=true:=decide_eq_true (by omega)
   simp only [d1,cond_true,Int.toNat_natCast]
   have:=h4 _ (at_mem ht)
   rw [Kr _ (by omega),Option.bind_some,ai ⟨by omega,by rw [List.length_take,List.length_singleton];omega,by rw [List.length_take,List.length_singleton];omega⟩,wr (by omega),iZ ht]
   rfl
  ·unfold gL
   have d1:decide ((p.links.length:Int)<(p.links.length:Int))=false:=decide_eq_false (by omega)
   simp only [d1,cond_false]
 have key':ay (gL p.links) FUEL ([],0)=_:=key
 unfold qa qP uN uO
 rw [ai (by omega),key',ai (by omega),List.take_length]
 rfl
theorem JE (l:List gD) (h:l.length≤8796093021952):qd l l=some true:=by
 unfold qd
 rw [AB (body:=lG l l) l (by omega) (fun t ht=> ?_) (by unfold lG;simp)]
 ·simp
 ·unfold lG
  rw [decide_eq_true (show(t:Int)<(l.length:Int) by omega),cond_true,ai ⟨by omega,by omega⟩,wr (by omega)]
  simp
theorem FK (l:List Source) (h:l.length≤1000):mK l l=some true:=by
 unfold mK
 rw [AB (body:=jY l l) l (by omega) (fun t ht=> ?_) (by unfold jY;simp)]
 ·simp
 ·unfold jY
  rw [decide_eq_true (show(t:Int)<(l.length:Int) by omega),cond_true,ai ⟨by omega,by omega⟩,wr (by omega)]
  simp
theorem I6 (l:List aD) (h:l.length≤1000):pX l l=some true:=by
 unfold pX
 rw [AB (body:=lS l l) l (by omega) (fun t ht=> ?_) (by unfold lS;simp)]
 ·simp
 ·unfold lS
  rw [decide_eq_true (show(t:Int)<(l.length:Int) by omega),cond_true,ai ⟨by omega,by omega⟩,wr (by omega)]
  simp
theorem KG (x:Link) (h:x.trip.length≤8796093021952):qO x x=some true:=by
 unfold qO
 rw [JE _ h];simp [gB]
theorem IC (l:List Link) (h:l.length≤1000) (ht: ∀x∈l,x.trip.length≤8796093021952):p8 l l=some true:=by
 unfold p8
 rw [AB (body:=kZ l l) l (by omega) (fun t htl=> ?_) (by unfold kZ;simp)]
 ·simp
 ·unfold kZ
  rw [decide_eq_true (show(t:Int)<(l.length:Int) by omega),cond_true,Int.toNat_natCast,KG _ (ht _ (at_mem htl)),Option.bind_some,ai ⟨by omega,by omega⟩,wr (by omega)]
  rfl
theorem JF (p:ah) (h1:p.sources.length≤60) (h2:p.links.length≤60) (h3:p.racks.length≤60) (h4: ∀x∈p.links,x.trip.length≤8796093021952):qc p p=some true:=by
 unfold qc
 rw [FK _ (by omega),IC _ (by omega) h4,I6 _ (by omega)]
 simp [gB]
theorem xV (l:List Int) (h:l.length≤1000000):jA l l=some true:=by
 have key:ay (mM l l) FUEL 0=some (.brk ()):=by
  refine aY (fun t=>(t:Int)) l.length _ (fuel_lt (by omega)) (fun t ht=> ?_) ?_
  ·unfold mM
   have d1:decide ((t:Int)<(l.length:Int))=true:=decide_eq_true (by omega)
   simp only [d1,cond_true,decide_true,Bool.not_true,cond_false]
   rw [ai ⟨by omega,by omega⟩,wr (by omega)]
   rfl
  ·unfold mM;simp
 unfold jA
 rw [key];simp
theorem GJ (l:List Short) (h:l.length≤1000) (hl: ∀x∈l,x.links.length≤1000000):jD l l=some true:=by
 have key:ay (jF l l) FUEL 0=some (.brk ()):=by
  refine aY (fun t=>(t:Int)) l.length _ (fuel_lt (by omega)) (fun t ht=> ?_) ?_
  ·unfold jF
   have d1:decide ((t:Int)<(l.length:Int))=true:=decide_eq_true (by omega)
   simp only [d1,cond_true,decide_true,Bool.not_true,cond_false,Int.toNat_natCast]
   rw [show gB [(false,false)]=true from rfl,cond_true,xV _ (hl _ (at_mem ht)),Option.bind_some,ai (by refine⟨?_, ?_,fun _=> ?_,fun _=> ?_,fun _=> ?_,fun _=> ?_,fun _=> ?_,fun _=> ?_⟩<;>omega),wr (by omega)]
   rfl
  ·unfold jF;simp
 unfold jD
 rw [key];simp
section
variable (p:ah) (l:List Short) (n:Nat)
theorem AU (hn:n<l.length) {i:Nat} (hi:i<(at' l n).links.length) (hlen:(at' l n).links.length≤1000000) (hm:0≤at' (at' l n).links i∧at' (at' l n).links i<(p.links.length:Int)):
  gU p l (n:Int) (tab p.links.length (fun k=>((at' l n).links.take i).contains (k:Int)),(i:Int))=some (.next (tab p.links.length (fun k=>((at' l n).links.take (i+1)).contains (k:Int)),((i+1:Nat):Int))):=by
 have hd:decide ((i:Int)<((at' l n).links.length:Int))=true:=decide_eq_true (by omega)
 have d1:decide (at' (at' l n).links i<0)=false:=decide_eq_false (by omega)
 have d2:decide ((p.links.length:Int)≤at' (at' l n).links i)=false:=decide_eq_false (by omega)
 unfold gU
 simp only [Int.toNat_natCast]
 rw [ai (by omega),hd,cond_true,ai ⟨by omega,by omega⟩,d1,d2,cond_false,cond_false,ai (by rw [aV];omega),wr (by omega),tQ]
 have:(tab p.links.length fun k=>if k=(at' (at' l n).links i).toNat then true else((at' l n).links.take i).contains (k:Int))=tab p.links.length fun k=>((at' l n).links.take (i+1)).contains (k:Int):=by
  refine bO fun k _=> ?_
  rw [iZ hi]
  by_cases e:k=(at' (at' l n).links i).toNat
  ·rw [if_pos e]
   have:(k:Int)=at' (at' l n).links i:=by omega
   simp [this]
  ·rw [if_neg e]
   have: ¬ (k:Int)=at' (at' l n).links i:=by omega
   simp [this]
 rw [this];rfl
theorem Ev (hn:n<l.length) (hl:(at' l n).links.length≤1000000):
  ay (gU p l (n:Int)) FUEL (List.replicate p.links.length false,0)=some (if((at' l n).links.any fun i=>decide (i<0)||decide ((p.links.length:Int)≤i))=true then .ret (.done (.ret ([],1)))else .brk (tab p.links.length fun k=>(at' l n).links.contains (k:Int))):=by
 have e:tab p.links.length (fun k=>((at' l n).links.take 0).contains (k:Int))=List.replicate p.links.length false:=by
  rw [BK];exact bO fun k _=>by simp
 rw [←e]
 cases hf:(at' l n).links.findIdx? (fun i=>decide (i<0)||decide ((p.links.length:Int)≤i))with
 |none=>
  rw [List.findIdx?_eq_none_iff]at hf
  have hany:((at' l n).links.any fun i=>decide (i<0)||decide ((p.links.length:Int)≤i))=false:=by rw [List.any_eq_false];intro x hx;simpa using hf x hx
  rw [hany,if_neg (by simp)]
  refine aY (fun i=>(tab p.links.length (fun k=>((at' l n).links.take i).contains (k:Int)),(i:Int))) (at' l n).links.length _ (fuel_lt (by omega)) (fun i hi=> ?_) ?_
  ·have:=hf _ (at_mem hi)
   rw [Bool.or_eq_false_iff,decide_eq_false_iff_not,decide_eq_false_iff_not]at this
   exact AU p l n hn hi hl ⟨by omega,by omega⟩
  ·have hd:decide (((at' l n).links.length:Int)<((at' l n).links.length:Int))=false:=decide_eq_false (by omega)
   unfold gU
   simp only [Int.toNat_natCast]
   rw [ai (by omega),hd,cond_false,List.take_length]
 |some k=>
  rw [List.findIdx?_eq_some_iff_getElem]at hf
  obtain⟨hk,hb,hpre⟩:=hf
  have hany:((at' l n).links.any fun i=>decide (i<0)||decide ((p.links.length:Int)≤i))=true:=by rw [List.any_eq_true];exact⟨_,List.getElem_mem hk,hb⟩
  rw [hany,if_pos rfl]
  refine aY (fun i=>(tab p.links.length (fun k=>((at' l n).links.take i).contains (k:Int)),(i:Int))) k _ (fuel_lt (by omega)) (fun i hi=> ?_) ?_
  ·have:=hpre i hi
   rw [Bool.not_eq_true,Bool.or_eq_false_iff,decide_eq_false_iff_not,decide_eq_false_iff_not,←eu (by omega)]at this
   exact AU p l n hn (by omega) hl ⟨by omega,by omega⟩
  ·have hd:decide ((k:Int)<((at' l n).links.length:Int))=true:=decide_eq_true (by omega)
   rw [←eu hk]at hb
   unfold gU
   simp only [Int.toNat_natCast]
   rw [ai (by omega),hd,cond_true,ai ⟨by omega,by omega⟩]
   have:(bif (decide (at' (at' l n).links k<0))then true else(decide ((p.links.length:Int)≤at' (at' l n).links k)))=true:=by
    revert hb;cases decide (at' (at' l n).links k<0)<;>simp
   rw [this,cond_true]
end
theorem Xt (l:List Short) (n N:Nat) (hn:n<l.length) (hN:N≤1000) (has:Nat→Bool) (f:Nat→Int) (ha:0≤(at' l n).amps∧(at' l n).amps≤1000000) (hf: ∀k,k<N→0≤f k∧f k≤1000000000):
  ay (jC l (n:Int) (tab N has)) FUEL (tab N f,0)=some (.brk (tab N fun k=>f k+if has k then(at' l n).amps else 0)):=by
 have key:ay (jC l (n:Int) (tab N has)) FUEL (tab N (fun k=>if k<0 then f k+(if has k then(at' l n).amps else 0)else f k),((0:Nat):Int))=some (.brk (tab N fun k=>f k+if has k then(at' l n).amps else 0)):=by
  refine aY (fun i=>(tab N (fun k=>if k<i then f k+(if has k then(at' l n).amps else 0)else f k),(i:Int))) N _ (fuel_lt (by omega)) (fun i hi=> ?_) ?_
  ·have hd:decide ((i:Int)<((tab N (fun k=>if k<i then f k+(if has k then(at' l n).amps else 0)else f k)).length:Int))=true:=by rw [aV];exact decide_eq_true (by omega)
   have hfi:=hf i hi
   unfold jC
   simp only [Int.toNat_natCast]
   rw [hd,cond_true,ai (by rw [aV];omega),kg hi,kg hi,if_neg (Nat.lt_irrefl _),wr (x:=(i:Int)+1) (by omega)]
   cases hh:has i with
   |true=>
    rw [cond_true,ai ⟨by rw [aV];omega,by omega⟩,wr (by omega),tQ]
    have:(tab N fun k=>if k=i then f i+(at' l n).amps else if k<i then f k+(if has k then(at' l n).amps else 0)else f k)=tab N fun k=>if k<i+1 then f k+(if has k then(at' l n).amps else 0)else f k:=by
     refine bO fun k hk=> ?_
     by_cases e:k=i
     ·subst e;rw [if_pos rfl,if_pos (show k<k+1 by omega),hh];rfl
     ·rw [if_neg e]
      by_cases e2:k<i
      ·rw [if_pos e2,if_pos (show k<i+1 by omega)]
      ·rw [if_neg e2,if_neg (show ¬ k<i+1 by omega)]
    rw [this];rfl
   |false=>
    rw [cond_false]
    have:(tab N fun k=>if k<i then f k+(if has k then(at' l n).amps else 0)else f k)=tab N fun k=>if k<i+1 then f k+(if has k then(at' l n).amps else 0)else f k:=by
     refine bO fun k hk=> ?_
     by_cases e:k=i
     ·subst e;rw [if_neg (Nat.lt_irrefl _),if_pos (show k<k+1 by omega),hh];simp
     ·by_cases e2:k<i
      ·rw [if_pos e2,if_pos (show k<i+1 by omega)]
      ·rw [if_neg e2,if_neg (show ¬ k<i+1 by omega)]
    rw [this];rfl
  ·have hd:decide ((N:Int)<((tab N (fun k=>if k<N then f k+(if has k then(at' l n).amps else 0)else f k)).length:Int))=false:=by rw [aV];exact decide_eq_false (by omega)
   unfold jC
   simp only
   rw [hd,cond_false]
   have:(tab N fun k=>if k<N then f k+(if has k then(at' l n).amps else 0)else f k)=tab N fun k=>f k+if has k then(at' l n).amps else 0:=bO fun k hk=>if_pos hk
   rw [this]
 have e:(tab N fun k=>if k<0 then f k+(if has k then(at' l n).amps else 0)else f k)=tab N f:=bO fun k _=>if_neg (Nat.not_lt_zero _)
 rw [e]at key
 exact key
theorem Cy {p:ah} {l:List Short} (hp:Small p) (hl: ∀x∈l,x.links.length≤1000000):lU p l=some ((vH p l).1,(vH p l).2.2):=by
 unfold lU vH
 rw [xC p hp,Option.bind_some]
 by_cases hc:lK p=0
 ·have hv:=qA.mp hc
  have hll:=hv.ll
  rw [hc]
  simp only [decide_true,Bool.not_true,cond_false,ne_eq,not_true_eq_false,if_false]
  by_cases h8:l.length>8
  ·have:decide (8<(l.length:Int))=true:=by simp;omega
   rw [this,if_pos h8];rfl
  ·have:decide (8<(l.length:Int))=false:=by simp;omega
   rw [this,if_neg h8,cond_false,ai (by omega),Int.toNat_natCast]
   have hstep: ∀t,t<l.length→(∀x∈l.take (t+1),pG p.links.length x=false)→fo p l (tab p.links.length (nY (l.take t)),(t:Int))=some (.next (tab p.links.length (nY (l.take (t+1))),((t+1:Nat):Int))):=by
    intro t ht hgood
    have hb:pG p.links.length (at' l t)=false:=hgood _ (by rw [iZ ht];simp)
    have hprev: ∀x∈l.take t,0≤x.amps∧x.amps≤1000000:=by
     intro x hx
     have:=hgood x (by rw [iZ ht];exact List.mem_append_left _ hx)
     simp only [pG,Bool.or_eq_false_iff,decide_eq_false_iff_not]at this
     omega
    simp only [pG,Bool.or_eq_false_iff,decide_eq_false_iff_not]at hb
    unfold fo
    have h1:decide ((t:Int)<(l.length:Int))=true:=by simp;omega
    have d1:decide ((at' l t).amps<0)=false:=decide_eq_false (by omega)
    have d2:decide (1000000<(at' l t).amps)=false:=decide_eq_false (by omega)
    simp only [h1,cond_true,Int.toNat_natCast]
    rw [ai ⟨by omega,fun _=>by omega⟩,d1,d2]
    simp only [cond_false]
    rw [ai ⟨by omega,by omega,by omega⟩,Ev p l t ht (hl _ (at_mem ht)),if_neg (by simp only [Bool.not_eq_true];rw [List.any_eq_false];intro x hx;have:=hb.2;rw [List.any_eq_false]at this;exact this x hx),Option.bind_some]
    simp only
    rw [Xt l t p.links.length ht (by omega) _ _ ⟨by omega,by omega⟩ (fun k hk=>by have:=MH (l.take t) k hprev;have:(l.take t).length≤l.length:=(by rw [List.length_take];omega);omega),Option.bind_some]
    simp only
    rw [wr (by omega),iZ ht]
    have:(tab p.links.length fun k=>nY (l.take t) k+if(at' l t).links.contains (k:Int)=true then(at' l t).amps else 0)=tab p.links.length (nY (l.take t++[at' l t])):=bO fun i hi=>by rw [LA]
    rw [this];rfl
   have hinit:(List.replicate p.links.length (0:Int))=tab p.links.length (nY (l.take 0)):=by rw [BK];exact bO fun i hi=>by simp [nY]
   rw [hinit]
   cases hf:l.findIdx? (pG p.links.length)with
   |none=>
    rw [List.findIdx?_eq_none_iff]at hf
    have hany:l.any (pG p.links.length)=false:=by rw [List.any_eq_false];intro x hx;simp [hf x hx]
    have key:ay (fo p l) FUEL (tab p.links.length (nY (l.take 0)),0)=some (.brk (tab p.links.length (nY l))):=by
     refine aY (fun t=>(tab p.links.length (nY (l.take t)),(t:Int))) l.length (.brk (tab p.links.length (nY l))) (fuel_lt (by omega)) (fun t ht=>hstep t ht fun x hx=>hf x (List.mem_of_mem_take hx)) ?_
     unfold fo;simp
    rw [hany,key]
    rfl
   |some k=>
    rw [List.findIdx?_eq_some_iff_getElem]at hf
    obtain⟨hk,hbk,hpre⟩:=hf
    have hany:l.any (pG p.links.length)=true:=by rw [List.any_eq_true];exact⟨_,List.getElem_mem hk,hbk⟩
    have hpre': ∀t,t<k→ ∀x∈l.take (t+1),pG p.links.length x=false:=by
     intro t ht x hx
     obtain⟨j,hj,rfl⟩:=List.mem_iff_getElem.mp hx
     rw [List.length_take]at hj
     have:=hpre j (by omega)
     simp at this;simpa using this
    have key:ay (fo p l) FUEL (tab p.links.length (nY (l.take 0)),0)=some (.ret ([],1)):=by
     refine aY (fun t=>(tab p.links.length (nY (l.take t)),(t:Int))) k (.ret ([],1)) (fuel_lt (by omega)) (fun t ht=>hstep t (by omega) (hpre' t ht)) ?_
     have hb:pG p.links.length (at' l k)=true:=by rw [eu hk];exact hbk
     unfold fo
     have h1:decide ((k:Int)<(l.length:Int))=true:=by simp;omega
     simp only [h1,cond_true,Int.toNat_natCast]
     rw [ai ⟨by omega,fun _=>by omega⟩,ai (by omega),Ev p l k hk (hl _ (at_mem hk))]
     unfold pG at hb
     revert hb
     generalize decide ((at' l k).amps<0)=b1
     generalize decide (1000000<(at' l k).amps)=b2
     generalize ((at' l k).links.any fun i=>decide (i<0)||decide ((p.links.length:Int)≤i))=b3
     cases b1<;>cases b2<;>cases b3<;>intro hb<;>first|rfl|cases hb
    rw [hany,key]
    rfl
 ·have:decide (lK p=0)=false:=by simp [hc]
  rw [this,if_pos hc];rfl
theorem xq:fF=some true:=by kernel_rfl
theorem SL (x n:Int): ∃k,zD x n=some k:=by
 unfold zD
 by_cases h:n<1
 ·rw [decide_eq_true h];exact⟨_,rfl⟩
 ·rw [decide_eq_false h,cond_false,ai (by omega)]
  cases decide (Int.tmod x n<0)<;>exact⟨_,rfl⟩
theorem UA {p:ah} (hp:Small p): ∃B,qF p=some B:=by
 unfold qF
 rw [xC p hp,Option.bind_some]
 cases(bif (bif (decide (60<(p.sources.length:Int)))then true else(decide (60<(p.links.length:Int))))then true else(decide (60<(p.racks.length:Int))))<;>exact⟨_,rfl⟩
theorem OT {p:ah} (hp:Small p) (s:State) (b:Int): ∃x e,jg p s b=some (x,e)∧jv p s b=some (x,e)∧x.length≤8∧ ∀y∈x,y.links.length≤240000:=by
 by_cases h0:iy p s=0
 ·obtain⟨hv,hs⟩:=eG.mp h0
  by_cases hb:0≤b∧b<p.buses
  ·obtain⟨k,rfl⟩: ∃k:Nat,b=(k:Int):=⟨b.toNat,by omega⟩
   exact⟨_,_,Uo hv hs hb.2,Nk hv hs hb.2,MR s hv k,fun y hy=>(NK hv hs hb.2 y hy).ll⟩
  ·refine⟨[],1, ?_, ?_,by simp,by simp⟩
   ·unfold jg
    rw [kD p s hp,h0,Option.bind_some]
    have:(bif (decide (b<0))then true else(decide (p.buses≤b)))=true:=by
     by_cases h:b<0
     ·rw [decide_eq_true h];rfl
     ·rw [decide_eq_false h,cond_false,decide_eq_true (by omega)]
    rw [this];rfl
   ·unfold jv
    rw [dK p s hp,h0,Option.bind_some]
    have:(bif (decide (b<0))then true else(decide (p.buses≤b)))=true:=by
     by_cases h:b<0
     ·rw [decide_eq_true h];rfl
     ·rw [decide_eq_false h,cond_false,decide_eq_true (by omega)]
    rw [this];rfl
 ·refine⟨[],iy p s, ?_, ?_,by simp,by simp⟩
  ·unfold jg
   rw [kD p s hp,Option.bind_some,decide_eq_false h0];rfl
  ·unfold jv
   rw [dK p s hp,Option.bind_some,decide_eq_false h0];rfl
theorem EF (p:ah) (l:List Short):(vH p l).1.length≤40:=by
 unfold vH
 split
 ·simp
 ·rename_i h
  have hv:=qA.mp (Classical.not_not.mp h)
  have:=hv.ll
  split
  ·simp
  ·split
   ·simp
   ·rw [aV];omega
theorem VY {p:ah} (hp:Small p) (s:State) (bus b2:Int) (t:Nat) (ht:t<2):gG p s bus b2 (t:Int)=some (.next (((t+1:Nat)):Int)):=by
 unfold gG
 have d1:decide ((t:Int)<([bus,b2].length:Int))=true:=decide_eq_true (by simp;omega)
 simp only [d1,cond_true,Int.toNat_natCast]
 generalize at' [bus,b2] t=b
 obtain⟨x,e,h1,h2,h3,h4⟩:=OT hp s b
 rw [ai ⟨by omega,by simp;omega⟩,h1,h2]
 simp only [Option.bind_some,decide_true,Bool.not_true]
 rw [show gB [(false,false)]=true from rfl,cond_true,GJ x (by omega) (fun y hy=>by have:=h4 y hy;omega),Option.bind_some]
 simp only [Bool.not_true,cond_false]
 rw [JW hp (fun y hy=>by have:=h4 y hy;omega),Cy hp (fun y hy=>by have:=h4 y hy;omega)]
 simp only [Option.bind_some,decide_true,Bool.not_true]
 rw [show gB [(false,false)]=true from rfl,cond_true,xV _ (by have:=EF p x;omega),Option.bind_some]
 simp only [Bool.not_true,cond_false]
 rw [wr (by omega)]
 rfl
theorem YK (l:List Short) (h:l.length≤20):ay (dN l) FUEL ([],0)=some (.ret true)∨(ay (dN l) FUEL ([],0)=some (.brk l)∧ ∀x∈l,x.links.length≤60):=by
 have hstep: ∀t,t<l.length→(at' l t).links.length≤60→dN l (l.take t,(t:Int))=some (.next (l.take (t+1),((t+1:Nat):Int))):=by
  intro t ht hl
  unfold dN
  have d1:decide ((t:Int)<(l.length:Int))=true:=decide_eq_true (by omega)
  have d2:decide (60<((at' l t).links.length:Int))=false:=decide_eq_false (by omega)
  simp only [d1,cond_true,Int.toNat_natCast,d2,cond_false]
  have hlen:(l.take t).length≤20:=by rw [List.length_take];omega
  rw [ai ⟨by omega,by omega⟩,ai ⟨by omega,by rw [List.length_singleton];omega,by rw [List.length_singleton];omega⟩,wr (by omega),iZ ht]
  rfl
 cases hf:l.findIdx? (fun x=>decide (60<x.links.length))with
 |none=>
  rw [List.findIdx?_eq_none_iff]at hf
  have hs: ∀x∈l,x.links.length≤60:=fun x hx=>by have:=of_decide_eq_false (hf x hx);omega
  refine .inr ⟨?_,hs⟩
  refine aY (fun t=>(l.take t,(t:Int))) l.length (.brk l) (fuel_lt (by omega)) (fun t ht=>hstep t ht (hs _ (at_mem ht))) ?_
  unfold dN
  simp
 |some k=>
  rw [List.findIdx?_eq_some_iff_getElem]at hf
  obtain⟨hk,hb,hpre⟩:=hf
  refine .inl ?_
  refine aY (fun t=>(l.take t,(t:Int))) k (.ret true) (fuel_lt (by omega)) (fun t ht=>hstep t (by omega) ?_) ?_
  ·have:=hpre t ht
   rw [eu (by omega)]
   simpa using this
  ·unfold dN
   have d1:decide ((k:Int)<(l.length:Int))=true:=decide_eq_true (by omega)
   have hb':=of_decide_eq_true hb
   have d2:decide (60<((at' l k).links.length:Int))=true:=by rw [eu hk];exact decide_eq_true (by omega)
   simp only [d1,cond_true,Int.toNat_natCast,d2]
   rw [ai ⟨by omega,by omega⟩,xq]
   rfl
theorem GR (p:ah) (s:State) (bus:Int) (l:List Short) (hp:Small p):jw p s bus l=some true:=by
 unfold jw
 obtain⟨B,hB⟩:=UA hp
 rw [hB,Option.bind_some]
 generalize hbig:(bif B then true else decide (20<(l.length:Int)))=big
 cases big with
 |true=>rw [cond_true,xq];rfl
 |false=>
  have hl:l.length≤20:=by
   cases B with
   |true=>cases hbig
   |false=>
    have:decide (20<(l.length:Int))=false:=hbig
    have:=of_decide_eq_false this
    omega
  rw [cond_false]
  rcases YK l hl with h|⟨h,hs⟩
  ·rw [h];rfl
  ·rw [h]
   obtain⟨b2,hb2⟩:=SL bus p.buses
   simp only [Option.bind_some]
   rw [hb2,Option.bind_some]
   have key:ay (gG p s bus b2) FUEL 0=some (.brk ()):=by
    refine aY (fun t=>(t:Int)) 2 (.brk ()) (fuel_lt (by omega)) (fun t ht=>VY hp s bus b2 t ht) ?_
    unfold gG
    rfl
   rw [key]
   simp only [Option.bind_some]
   rw [JW hp (fun y hy=>by have:=hs y hy;omega),Cy hp (fun y hy=>by have:=hs y hy;omega)]
   simp only [Option.bind_some,decide_true]
   rw [show gB [(true,true)]=true from rfl,cond_true,xV _ (by have:=EF p l;omega),Option.bind_some]
   simp only [cond_true]
   rw [show gB [(true,true)]=true from rfl,cond_true,xq]
   rfl
def kV (n b:Nat):Bool:=decide (n / 2 ^ b % 2=1)
theorem Xh: ∀(k:Nat) (C:Nat→Bool),∃n,n<2 ^ k∧ ∀b,b<k→kV n b=C b
 |0,C=> ⟨0,by simp,fun b hb=>by omega⟩
 |k+1,C=>by
  obtain⟨n,h1,h2⟩:=Xh k fun b=>C (b+1)
  refine⟨2*n+(if C 0=true then 1 else 0), ?_,fun b hb=> ?_⟩
  ·rw [Nat.pow_succ];split<;>omega
  ·match b,hb with
   |0,_=>
    unfold kV
    rw [Nat.pow_zero,Nat.div_one]
    cases C 0
    ·rw [if_neg (by simp)];exact decide_eq_false (by omega)
    ·rw [if_pos rfl];exact decide_eq_true (by omega)
   |b+1,hb=>
    have:kV (2*n+(if C 0=true then 1 else 0)) (b+1)=kV n b:=by
     unfold kV
     rw [Nat.pow_succ,Nat.mul_comm (2 ^ b) 2,←Nat.div_div_eq_div_mul]
     have:(2*n+(if C 0=true then 1 else 0)) / 2=n:=by split<;>omega
     rw [this]
    rw [this,h2 b (by omega)]
theorem Tk (n b:Nat) (hb:b<64):decide (Int.tmod (Int.fdiv (n:Int) (2 ^ min b (IntKind.bits .i64))) 2=1)=kV n b:=by
 have e0:min b (IntKind.bits .i64)=b:=by show min b 64=b;omega
 rw [e0]
 have e1:Int.fdiv (n:Int) (2 ^ b)=((n / 2 ^ b:Nat):Int):=by
  rw [Int.fdiv_eq_ediv_of_nonneg _ (by exact_mod_cast Nat.zero_le (2 ^ b))]
  exact_mod_cast rfl
 rw [e1]
 unfold kV
 have e2:Int.tmod ((n / 2 ^ b:Nat):Int) 2=((n / 2 ^ b % 2:Nat):Int):=rfl
 rw [e2]
 exact decide_eq_decide.mpr (by omega)
theorem JB {p:ah} {s:State} (hp:VP p) {C D:Nat→Bool} (h: ∀b:Nat,(b:Int)<p.buses→C b=D b):o6 p s C=o6 p s D:=by
 have e1:aU p.sources.length (JX p s C)=aU p.sources.length (JX p s D):=bR fun k hk=>by
  have:=(hp.src k hk).bus
  unfold JX;rw [h _ (by omega)]
 have e2:aU p.links.length (JZ p s C)=aU p.links.length (JZ p s D):=bR fun k hk=>by
  have ha:=(hp.lnk k hk).a;have hb:=(hp.lnk k hk).b
  unfold JZ;rw [h _ (by omega),h _ (by omega)]
 have e3:aU p.racks.length (Kb p C)=aU p.racks.length (Kb p D):=bR fun k hk=>by
  have ha:=(hp.rck k hk).e0;have hb:=(hp.rck k hk).e1
  unfold Kb R7
  rw [h _ (by omega)]
  by_cases h0:0≤(at' p.racks k).feeds.e1
  ·rw [h _ (by omega)]
  ·rw [decide_eq_false h0];rfl
 unfold o6;rw [e1,e2,e3]
def y8 (s:State) (n:Nat):Nat→Bool
 |0=>true
 |k+1=>y8 s n k && !(kV n k && at' s.badBus k)
theorem H9 {s:State} {n:Nat}: ∀{k:Nat},y8 s n k=true↔ ∀b,b<k→kV n b=true→at' s.badBus b=false
 |0=> ⟨fun _ b hb=>by omega,fun _=>rfl⟩
 |k+1=>by
  unfold y8
  rw [Bool.and_eq_true,H9]
  constructor
  ·rintro ⟨h1,h2⟩ b hb hc
   by_cases e:b=k
   ·subst e;rw [hc]at h2;simpa using h2
   ·exact h1 b (by omega) hc
  ·intro h
   refine⟨fun b hb=>h b (by omega), ?_⟩
   cases hc:kV n k with
   |false=>rfl
   |true=>rw [h k (by omega) hc];rfl
section
variable {p:ah} {s:State} (hp:VP p) (hs:VS p s)
include hp hs
theorem UU (n:Nat):ay (oq p s (n:Int)) FUEL (List.replicate p.buses.toNat false,true,0)=some (.brk (tab p.buses.toNat (kV n),y8 s n p.buses.toNat)):=by
 have hb:=hp.b;have h4:=hs.badBus
 have e0:List.replicate p.buses.toNat false=tab p.buses.toNat fun b=>if b<0 then kV n b else false:=by rw [BK];exact bO fun b _=>by simp
 rw [e0]
 refine aY (fun k=>(tab p.buses.toNat (fun b=>if b<k then kV n b else false),y8 s n k,(k:Int))) p.buses.toNat _ (fuel_lt (by omega)) (fun k hk=> ?_) ?_
 ·have ht:(tab p.buses.toNat (fun b=>if b<k then kV n b else false)).set k (kV n k)=tab p.buses.toNat (fun b=>if b<k+1 then kV n b else false):=by
   rw [tQ]
   refine bO fun b hb2=> ?_
   by_cases e:b=k
   ·subst e;rw [if_pos rfl,if_pos (by omega)]
   ·rw [if_neg e]
    by_cases e2:b<k
    ·rw [if_pos e2,if_pos (by omega)]
    ·rw [if_neg e2,if_neg (by omega)]
  unfold oq
  dsimp only
  rw [Int.toNat_natCast,Tk n k (by omega),wo (by omega),cond_true,ai ⟨by omega,by omega,by rw [aV];omega⟩,ht,kg (by omega),if_pos (by omega),ai ⟨fun _=>by rw [aV];omega,fun _=>by omega⟩,wr (x:=(k:Int)+1) (by omega),mI]
  have:(bif y8 s n k then !(bif kV n k then at' s.badBus k else false)else false)=y8 s n (k+1):=by
   show _=(y8 s n k && !(kV n k && at' s.badBus k))
   cases y8 s n k<;>cases kV n k<;>rfl
  rw [this]
 ·unfold oq
  dsimp only
  rw [Jq (by omega),cond_false]
  refine congrArg (fun l=>some (aM.done (Ex.brk (l,_)))) (bO fun b hb2=> ?_)
  rw [if_pos hb2]
theorem VI (f g:Nat→Bool):ay (oz p (tab p.buses.toNat g)) FUEL (tab p.buses.toNat f,0)=some (.brk (tab p.buses.toNat fun b=>f b && g b)):=by
 have hb:=hp.b
 have e0:tab p.buses.toNat f=tab p.buses.toNat fun b=>if b<0 then f b && g b else f b:=bO fun b _=>by simp
 rw [e0]
 refine aY (fun k=>(tab p.buses.toNat (fun b=>if b<k then f b && g b else f b),(k:Int))) p.buses.toNat _ (fuel_lt (by omega)) (fun k hk=> ?_) ?_
 ·unfold oz
  dsimp only
  rw [Int.toNat_natCast,wo (by omega),cond_true,ai ⟨by rw [aV];omega,fun _=>by rw [aV];omega⟩,kg (by omega),kg (by omega),if_neg (Nat.lt_irrefl _),wr (x:=(k:Int)+1) (by omega),tQ,mI]
  refine congrArg (fun l=>some (aM.next (l,_))) (bO fun b hb2=> ?_)
  by_cases e:b=k
  ·subst e;rw [if_pos rfl,if_pos (by omega)];cases f b<;>rfl
  ·rw [if_neg e]
   by_cases e2:b<k
   ·rw [if_pos e2,if_pos (by omega)]
   ·rw [if_neg e2,if_neg (by omega)]
 ·unfold oz
  dsimp only
  rw [Jq (by omega),cond_false]
  refine congrArg (fun l=>some (aM.done (Ex.brk l))) (bO fun b hb2=> ?_)
  rw [if_pos hb2]
def LI (p:ah) (s:State) (n:Nat) (least:Int) (out:List Bool):Prop:=
 ∃f:Nat→Bool,out=tab p.buses.toNat f∧((least= -1∧ ∀i,i<n→y8 s i p.buses.toNat=false)∨
  (0≤least∧(∃i,i<n∧y8 s i p.buses.toNat=true∧o6 p s (kV i)=least)∧(∀i,i<n→y8 s i p.buses.toNat=true→least≤o6 p s (kV i))∧ ∀b,b<p.buses.toNat→(f b=true↔ ∀i,i<n→y8 s i p.buses.toNat=true→o6 p s (kV i)=least→kV i b=true)))
theorem Oc (C:Nat→Bool):0≤o6 p s C:=by
 have h1:=xw (n:=p.sources.length) (f:=JX p s C) fun i hi=>(M4 hp C hi).1
 have h2:=xw (n:=p.links.length) (f:=JZ p s C) fun i hi=>(Mk hp C hi).1
 have h3:=xw (n:=p.racks.length) (f:=Kb p C) fun i hi=>(Ql hp C hi).1
 unfold o6;omega
theorem QS {n:Nat} (hn:n<2 ^ p.buses.toNat) (h10:p.buses≤10) {least:Int} {out:List Bool} (h:LI p s n least out): ∃least' out',jl p s (least,out,(n:Int))=some (.next (least',out',((n+1:Nat):Int)))∧LI p s (n+1) least' out':=by
 have hb:=hp.b
 obtain⟨f,rfl,h⟩:=h
 have hpow:2 ^ p.buses.toNat≤1024:=Nat.pow_le_pow_right (show 0<2 by omega) (show p.buses.toNat≤10 by omega)
 have e1:IntKind.wrap .i64 ((1:Int)*2 ^ min p.buses.toNat (IntKind.bits .i64))=((2 ^ p.buses.toNat:Nat):Int):=by
  have:min p.buses.toNat (IntKind.bits .i64)=p.buses.toNat:=by show min p.buses.toNat 64=_;omega
  rw [this,Int.one_mul]
  have e:(2:Int) ^ p.buses.toNat=((2 ^ p.buses.toNat:Nat):Int):=by simp
  rw [e]
  generalize 2 ^ p.buses.toNat=P at hpow
  exact wr (by omega)
 have hcap:jk p s (tab p.buses.toNat (kV n))=some (o6 p s (kV n)):=by
  rw [Lu hp hs (by rw [aV];omega)]
  exact congrArg some (JB hp fun b hb2=>kg (by omega))
 have hnn:=Oc hp hs (kV n)
 have body:jl p s (least,tab p.buses.toNat f,(n:Int))=some (.next (
   if y8 s n p.buses.toNat=false then(least,tab p.buses.toNat f,((n+1:Nat):Int))else
   if least<0∨o6 p s (kV n)<least then(o6 p s (kV n),tab p.buses.toNat (kV n),((n+1:Nat):Int))else
   if o6 p s (kV n)=least then(least,tab p.buses.toNat (fun b=>f b && kV n b),((n+1:Nat):Int))else(least,tab p.buses.toNat f,((n+1:Nat):Int)))):=by
  unfold jl
  dsimp only
  rw [ai (by omega),e1,wo (by omega),cond_true,ai ⟨by omega,by omega,by omega⟩,UU hp hs n,wr (x:=(n:Int)+1) (by omega),mI]
  simp only [Option.bind_some]
  cases hr:y8 s n p.buses.toNat with
  |false=>rfl
  |true=>
   rw [Bool.not_true,cond_false,hcap,Option.bind_some,if_neg (by simp)]
   by_cases c1:least<0
   ·rw [decide_eq_true c1,if_pos (.inl c1)];rfl
   ·rw [decide_eq_false c1,cond_false]
    by_cases c2:o6 p s (kV n)<least
    ·rw [decide_eq_true c2,if_pos (.inr c2)];rfl
    ·rw [decide_eq_false c2,cond_false,if_neg (fun q=>q.elim c1 c2)]
     by_cases c3:o6 p s (kV n)=least
     ·rw [decide_eq_true c3,cond_true,VI hp hs,if_pos c3];rfl
     ·rw [decide_eq_false c3,cond_false,if_neg c3];rfl
 rw [body]
 have lt1: ∀i,i<n+1→i<n∨i=n:=fun i hi=>by omega
 cases hr:y8 s n p.buses.toNat with
 |false=>
  refine⟨least,tab p.buses.toNat f,rfl,f,rfl, ?_⟩
  rcases h with⟨h1,h2⟩|⟨h1,⟨i0,h2,h3,h4⟩,h5,h6⟩
  ·exact .inl ⟨h1,fun i hi=>(lt1 i hi).elim (h2 i) fun e=>e ▸ hr⟩
  ·refine .inr ⟨h1,⟨i0,by omega,h3,h4⟩,fun i hi hri=> ?_,fun b hb2=>(h6 b hb2).trans ⟨fun g i hi hri hc=> ?_,fun g i hi=>g i (by omega)⟩⟩
   ·rcases lt1 i hi with hi|rfl
    ·exact h5 i hi hri
    ·rw [hr]at hri;cases hri
   ·rcases lt1 i hi with hi|rfl
    ·exact g i hi hri hc
    ·rw [hr]at hri;cases hri
 |true=>
  rw [if_neg (by simp)]
  by_cases c1:least<0∨o6 p s (kV n)<least
  ·rw [if_pos c1]
   have small: ∀i,i<n→y8 s i p.buses.toNat=true→o6 p s (kV n)<o6 p s (kV i):=fun i hi hri=>by
    rcases h with⟨h1,h2⟩|⟨h1,_,h5,_⟩
    ·rw [h2 i hi]at hri;cases hri
    ·have:=h5 i hi hri;omega
   refine⟨_,_,rfl,kV n,rfl, .inr ⟨hnn,⟨n,by omega,hr,rfl⟩,fun i hi hri=> ?_,fun b hb2=> ⟨fun g i hi hri hc=> ?_,fun g=>g n (by omega) hr rfl⟩⟩⟩
   ·rcases lt1 i hi with hi|rfl
    ·have:=small i hi hri;omega
    ·exact Int.le_refl _
   ·rcases lt1 i hi with hi|rfl
    ·have:=small i hi hri;omega
    ·exact g
  ·rw [if_neg c1]
   rcases h with⟨h1,h2⟩|⟨h1,⟨i0,h2,h3,h4⟩,h5,h6⟩
   ·exact absurd (.inl (by omega)) c1
   ·by_cases c3:o6 p s (kV n)=least
    ·rw [if_pos c3]
     refine⟨_,_,rfl,_,rfl, .inr ⟨h1,⟨i0,by omega,h3,h4⟩,fun i hi hri=> ?_,fun b hb2=> ?_⟩⟩
     ·rcases lt1 i hi with hi|rfl
      ·exact h5 i hi hri
      ·omega
     ·rw [Bool.and_eq_true,h6 b hb2]
      exact⟨fun g i hi hri hc=>(lt1 i hi).elim (fun hi=>g.1 i hi hri hc) fun e=>e ▸ g.2,fun g=> ⟨fun i hi=>g i (by omega),g n (by omega) hr c3⟩⟩
    ·rw [if_neg c3]
     refine⟨_,_,rfl,_,rfl, .inr ⟨h1,⟨i0,by omega,h3,h4⟩,fun i hi hri=> ?_,fun b hb2=>(h6 b hb2).trans ⟨fun g i hi hri hc=> ?_,fun g i hi=>g i (by omega)⟩⟩⟩
     ·rcases lt1 i hi with hi|rfl
      ·exact h5 i hi hri
      ·omega
     ·rcases lt1 i hi with hi|rfl
      ·exact g i hi hri hc
      ·exact absurd hc c3
theorem Ij (h10:p.buses≤10) {x:aA} {cut:List Bool} (h:Sv p s x cut):l9 p s=some (PS p x,cut):=by
 have hb:=hp.b
 have hpow:2 ^ p.buses.toNat≤1024:=Nat.pow_le_pow_right (show 0<2 by omega) (show p.buses.toNat≤10 by omega)
 have e1:IntKind.wrap .i64 ((1:Int)*2 ^ min p.buses.toNat (IntKind.bits .i64))=((2 ^ p.buses.toNat:Nat):Int):=by
  have:min p.buses.toNat (IntKind.bits .i64)=p.buses.toNat:=by show min p.buses.toNat 64=_;omega
  rw [this,Int.one_mul]
  have e:(2:Int) ^ p.buses.toNat=((2 ^ p.buses.toNat:Nat):Int):=by simp
  rw [e]
  generalize 2 ^ p.buses.toNat=P at hpow
  exact wr (by omega)
 have key:=uD (body:=jl p s)
  (fun z:Int × List Bool × Int=> ∃n:Nat,z.2.2=(n:Int)∧n≤2 ^ p.buses.toNat∧LI p s n z.1 z.2.1)
  (fun z=>2 ^ p.buses.toNat - z.2.2.toNat)
  (fun r:Ex (Int × List Bool) (Int × List Bool)=> ∃l o,r= .brk (l,o)∧LI p s (2 ^ p.buses.toNat) l o)
  (fun z hI=> ?_)
 ·obtain⟨r,e,l,o,rfl,f,rfl,hl⟩:=key FUEL (-1,List.replicate p.buses.toNat false,0) ⟨0,rfl,Nat.zero_le _,fun _=>false,BK _ _, .inl ⟨rfl,fun i hi=>by omega⟩⟩ (by show 2 ^ p.buses.toNat - _<FUEL;unfold FUEL;omega)
  unfold l9
  rw [ai ⟨by omega,by omega,by omega⟩,e]
  show some (l,tab p.buses.toNat f)=_
  obtain⟨i0,g1,g2⟩:=Xh p.buses.toNat (at' cut)
  have g3:y8 s i0 p.buses.toNat=true:=H9.2 fun b hb2 hc=>h.rt b (by omega) (by rw [←g2 b hb2];exact hc)
  have g4:o6 p s (kV i0)=PS p x:=by rw [h.eq];exact JB hp fun b hb2=>g2 b (by omega)
  have rg: ∀i,y8 s i p.buses.toNat=true→Ki p s (kV i):=fun i hi b hb2 hc=>H9.1 hi b (by omega) hc
  rcases hl with⟨h1,h2⟩|⟨h1,⟨i1,h2,h3,h4⟩,h5,h6⟩
  ·rw [h2 i0 g1]at g3;cases g3
  ·have q1:=h5 i0 g1 g3
   have q2:=abw hp hs h.ps (rg i1 h3)
   have el:l=PS p x:=by omega
   subst el
   refine congrArg (fun o=>some (_,o)) (Dl (by rw [aV,h.cl]) fun b hb2=> ?_)
   rw [aV]at hb2
   rw [kg hb2]
   have:f b=true↔at' cut b=true:=(h6 b hb2).trans ⟨fun g=>by rw [←g2 b hb2];exact g i0 g1 g3 g4,fun g i hi hri hc=>h.least _ (rg i hri) hc.symm b (by omega) g⟩
   cases hc:at' cut b with
   |true=>exact this.2 hc
   |false=>cases hf:f b with
    |false=>rfl
    |true=>rw [this.1 hf]at hc;cases hc
 ·obtain⟨l,o,t⟩:=z
  obtain⟨n,rfl,hn,hL⟩:=hI
  dsimp only at hL ⊢
  by_cases hn2:n<2 ^ p.buses.toNat
  ·left
   obtain⟨l',o',e,h'⟩:=QS hp hs hn2 h10 hL
   refine⟨_,e,⟨n+1,rfl,by omega,h'⟩, ?_⟩
   show 2 ^ p.buses.toNat - (((n+1:Nat):Int)).toNat<2 ^ p.buses.toNat - (n:Int).toNat
   omega
  ·right
   have:n=2 ^ p.buses.toNat:=by omega
   subst this
   unfold jl
   dsimp only
   rw [ai (by omega),e1,Jq (by omega),cond_false]
   exact⟨_,rfl,l,o,rfl,hL⟩
end
theorem HY {α ρ:Type} {body:List α × Int→Option (aM (List α × Int) (Ex (List α) ρ))} (n:Nat) (f:Nat→List α) (l0:List α) (hn:n≤1000) (h0:l0.length≤1000) (hf: ∀i,i<n→(f i).length≤1)
  (hb: ∀(i:Nat) (l:List α),i<n→l.length≤2000→body (l,(i:Int))=some (.next (l++f i,((i+1:Nat):Int)))) (he: ∀l,body (l,(n:Int))=some (.done (.brk l))):
  ay body FUEL (l0,0)=some (.brk (l0++(List.range n).flatMap f)):=by
 have hlen: ∀k,k≤n→((List.range k).flatMap f).length≤k:=fun k=>by
  induction k with
  |zero=>intro _;simp
  |succ k ih=>
   intro hk
   rw [List.range_succ,List.flatMap_append,List.length_append]
   have:=ih (by omega)
   have h1:=hf k (by omega)
   have:([k].flatMap f).length≤1:=by simpa using h1
   omega
 have key:ay body FUEL (l0++(List.range 0).flatMap f,((0:Nat):Int))=some (.brk (l0++(List.range n).flatMap f)):=by
  refine aY (fun k=>(l0++(List.range k).flatMap f,(k:Int))) n _ (fuel_lt (by omega)) (fun k hk=> ?_) (he _)
  have:=hlen k (by omega)
  rw [hb k _ hk (by rw [List.length_append];omega),List.range_succ,List.flatMap_append,List.append_assoc]
  simp
 simpa using key
def Y9 (p:ah) (s:State) (C:Nat→Bool) (k:Nat):List Part:=if(bC p s k && !C (at' p.sources k).bus.toNat)=true then [⟨2,(k:Int)⟩]else []
def Zg (p:ah) (s:State) (C:Nat→Bool) (k:Nat):List Part:=if(aN p s k && !(C (at' p.links k).a.toNat==C (at' p.links k).b.toNat))=true then [⟨3,(k:Int)⟩]else []
def YJ (p:ah) (s:State) (C:Nat→Bool):List Part:=(List.range p.sources.length).flatMap (Y9 p s C)++(List.range p.links.length).flatMap (Zg p s C)
theorem Em (p:ah) (s:State) (C:Nat→Bool) (k:Nat):(Y9 p s C k).length≤1:=by unfold Y9;split<;>simp
theorem Hw (p:ah) (s:State) (C:Nat→Bool) (k:Nat):(Zg p s C k).length≤1:=by unfold Zg;split<;>simp
theorem vE {α:Type} {f:Nat→List α} (h: ∀k,(f k).length≤1): ∀n,((List.range n).flatMap f).length≤n
 |0=>by simp
 |n+1=>by
  rw [List.range_succ,List.flatMap_append,List.length_append]
  have:=vE h n
  have:([n].flatMap f).length≤1:=by simpa using h n
  omega
section
variable {p:ah} {s:State} (hp:VP p) (hs:VS p s)
include hp hs
theorem P8 {cut:List Bool} (hc:(cut.length:Int)=p.buses):oP p.buses p.sources p.links p.racks s.closed s.locked s.badLink s.on_ s.badSource s.earthed s.badBus cut []=some (YJ p s (at' cut)):=by
 unfold oP
 have hsl:=hp.sl;have hll:=hp.ll;have hrl:=hp.rl
 have l1:=vE (Em p s (at' cut)) p.sources.length
 have l2:=vE (Hw p s (at' cut)) p.links.length
 rw [HY p.sources.length (Y9 p s (at' cut)) [] (by omega) (by simp) (fun i _=>Em _ _ _ _) (fun k l hk hl=> ?_) (fun l=>by unfold pE;simp)]
 rotate_left
 ·have hf:gZ ⟨p.buses,p.sources,p.links,p.racks⟩ ⟨s.closed,s.locked,s.badLink,s.on_,s.badSource,s.earthed,s.badBus⟩ (k:Int)=some (bC p s k):=rU hp hs hk
  have hv:=(hp.src k hk).bus
  unfold pE fP Y9
  dsimp only
  rw [Int.toNat_natCast,wo (by omega),cond_true,ai (by omega),hf,Option.bind_some,wr (x:=(k:Int)+1) (by omega),mI]
  have q:(0:Int)≤(at' p.sources k).bus∧(at' p.sources k).bus<(cut.length:Int):=by omega
  cases bC p s k<;>cases at' cut (at' p.sources k).bus.toNat<;>simp only [cond_true,cond_false,Bool.not_true,Bool.not_false,Bool.and_true,Bool.and_false,if_true,Option.bind_some,Bool.false_and,Bool.true_and,show(decide ((2:Int)=0))=false from rfl]
  ·rw [ai fun _=>q];simp
  ·rw [ai fun _=>q];simp
  ·rw [ai ⟨by rw [List.length_singleton];omega,by rw [List.length_singleton];omega⟩,Option.bind_some,ai fun _=>q]
  ·rw [ai fun _=>q];simp
 simp only [Option.bind_some,List.nil_append]
 rw [HY p.links.length (Zg p s (at' cut)) _ (by omega) (by omega) (fun i _=>Hw _ _ _ _) (fun k l hk hl=> ?_) (fun l=>by unfold pq;simp)]
 rotate_left
 ·have hf:dI ⟨p.buses,p.sources,p.links,p.racks⟩ ⟨s.closed,s.locked,s.badLink,s.on_,s.badSource,s.earthed,s.badBus⟩ (k:Int)=some (aN p s k):=uy hp hs hk
  have ha:=(hp.lnk k hk).a;have hb:=(hp.lnk k hk).b
  unfold pq fP Zg
  dsimp only
  rw [Int.toNat_natCast,wo (by omega),cond_true,ai (by omega),hf,Option.bind_some,wr (x:=(k:Int)+1) (by omega),mI]
  have q:(0:Int)≤(at' p.links k).a∧(at' p.links k).a<(cut.length:Int):=by omega
  have q':(0:Int)≤(at' p.links k).b∧(at' p.links k).b<(cut.length:Int):=by omega
  have q2:(l.length+[(⟨3,(k:Int)⟩:Part)].length)*16≤140737488355328∧l.length+[(⟨3,(k:Int)⟩:Part)].length≤4611686018427387904:=⟨by rw [List.length_singleton];omega,by rw [List.length_singleton];omega⟩
  rw [ai q2]
  have q3:(gB [(aN p s k,true)]=true→(0:Int)≤(at' p.links k).a∧(at' p.links k).a<(cut.length:Int))∧(gB [(aN p s k,true)]=true→(0:Int)≤(at' p.links k).b∧(at' p.links k).b<(cut.length:Int)):=⟨fun _=>q,fun _=>q'⟩
  simp only [ai q3]
  cases aN p s k<;>cases at' cut (at' p.links k).a.toNat<;>cases at' cut (at' p.links k).b.toNat<;>first|(exact congrArg (fun z=>some (aM.next (z,_))) (List.append_nil l).symm)|rfl
 simp only [Option.bind_some]
 have key:ay (kL p.racks cut) FUEL (YJ p s (at' cut),0)=some (.brk (YJ p s (at' cut))):=by
  refine aY (fun k=>(YJ p s (at' cut),(k:Int))) p.racks.length _ (fuel_lt (by omega)) (fun k hk=> ?_) (by unfold kL;simp)
  have hv:=hp.rck k hk;have ha:=hv.e0;have hb:=hv.e1
  have hf: ∃r,bV [(at' p.racks k).feeds.e0,(at' p.racks k).feeds.e1] cut=some r:=by
   unfold bV iq
   rw [nM [(at' p.racks k).feeds.e0,(at' p.racks k).feeds.e1] (fun b=>decide (0≤b) && at' cut b.toNat) id (by simp) (fun i hi=> ?_) (by unfold dO;rfl)]
   ·cases [(at' p.racks k).feeds.e0,(at' p.racks k).feeds.e1].findIdx? (fun b=>decide (0≤b) && at' cut b.toNat)<;>exact⟨_,rfl⟩
   ·have hx: -1≤at' [(at' p.racks k).feeds.e0,(at' p.racks k).feeds.e1] i∧at' [(at' p.racks k).feeds.e0,(at' p.racks k).feeds.e1] i<p.buses:=by
     match i,hi with
     |0,_=>exact(show -1≤(at' p.racks k).feeds.e0∧(at' p.racks k).feeds.e0<p.buses by omega)
     |1,_=>exact hb
    unfold dO lT
    rw [Int.toNat_natCast]
    generalize at' [(at' p.racks k).feeds.e0,(at' p.racks k).feeds.e1] i=b at hx ⊢
    rw [ai (fun h=> ⟨of_decide_eq_true (gB1 h),by omega⟩)]
    have e:(bif decide (0≤b)then at' cut b.toNat else false)=(decide (0≤b) && at' cut b.toNat):=by cases decide (0≤b)<;>rfl
    rw [e]
    exact nO hi (by simp) _ id _
  obtain⟨r,hr⟩:=hf
  unfold kL fP
  dsimp only
  rw [Int.toNat_natCast,wo (by omega),cond_true,ai (by omega),hr,Option.bind_some,wr (x:=(k:Int)+1) (by omega)]
  cases r<;>rfl
 have e:(List.range p.sources.length).flatMap (Y9 p s (at' cut))++(List.range p.links.length).flatMap (Zg p s (at' cut))=YJ p s (at' cut):=rfl
 rw [e,key];rfl
theorem VZ {x:aA} {cut:List Bool} (e:bN p s=some (x,cut,0)) (h:Sv p s x cut):kY p s=some (YJ p s (at' cut),0):=by
 have hb:=hp.b;have hcl:=h.cl
 unfold kY nu
 rw [e,Option.bind_some]
 dsimp only
 rw [decide_eq_true rfl,Bool.not_true,cond_false,Option.bind_some]
 dsimp only
 rw [P8 hp hs (by omega)];rfl
theorem Pn (h10:p.buses≤10) {x:aA} {cut:List Bool} (h:Sv p s x cut):mg p s=some (YJ p s (at' cut),0):=by
 have hb:=hp.b;have hcl:=h.cl
 have hsl:=hp.sl;have hll:=hp.ll
 have l1:=vE (Em p s (at' cut)) p.sources.length
 unfold mg
 rw [dK p s hp.small,eG.mpr ⟨hp,hs⟩,Option.bind_some,decide_eq_true rfl,Bool.not_true,cond_false,Ij hp hs h10 h,Option.bind_some]
 rw [HY p.sources.length (Y9 p s (at' cut)) [] (by omega) (by simp) (fun i _=>Em _ _ _ _) (fun k l hk hl=> ?_) (fun l=>by unfold sO;simp)]
 rotate_left
 ·have hv:=(hp.src k hk).bus
  unfold sO Y9
  dsimp only
  rw [Int.toNat_natCast,wo (by omega),cond_true,xu hp hs hk,Option.bind_some,ai ⟨fun _=>by omega,fun _=>by omega⟩,ai ⟨by rw [List.length_singleton];omega,by rw [List.length_singleton];omega⟩,wr (x:=(k:Int)+1) (by omega),mI]
  cases bC p s k<;>cases at' cut (at' p.sources k).bus.toNat<;>simp
 simp only [Option.bind_some,List.nil_append]
 rw [HY p.links.length (Zg p s (at' cut)) _ (by omega) (by omega) (fun i _=>Hw _ _ _ _) (fun k l hk hl=> ?_) (fun l=>by unfold sQ;simp)]
 rotate_left
 ·have ha:=(hp.lnk k hk).a;have hbb:=(hp.lnk k hk).b
  unfold sQ Zg
  dsimp only
  rw [Int.toNat_natCast,wo (by omega),cond_true,rR hp hs hk,Option.bind_some,ai ⟨fun _=>by omega,fun _=>by omega,fun _=>by omega⟩,ai ⟨by rw [List.length_singleton];omega,by rw [List.length_singleton];omega⟩,wr (x:=(k:Int)+1) (by omega),mI]
  cases aN p s k<;>cases at' cut (at' p.links k).a.toNat<;>cases at' cut (at' p.links k).b.toNat<;>simp
 rfl
def aen (p:ah):Int:=aU p.racks.length fun r=>(at' p.racks r).power
theorem Yf {x:aA} {cut:List Bool} (e:bN p s=some (x,cut,0)) (h:Sv p s x cut):nT p s=some (decide (PS p x=aen p),0):=by
 have hrl:=hp.rl
 unfold nT
 rw [e,Option.bind_some]
 dsimp only
 rw [decide_eq_true rfl,Bool.not_true,cond_false,qY p.racks.length (fun r=>(at' p.racks r).power) 0 (by omega) (fun i hi=>by have:=(hp.rck i hi).power;omega) (by omega) (fun k y hk hy=> ?_) (fun y=>by unfold wR;simp)]
 ·simp only [Option.bind_some]
  rw [h.ps.amount hp hs,Option.bind_some,Int.zero_add];rfl
 ·have hw:=(hp.rck k hk).power
  unfold wR
  dsimp only
  rw [Int.toNat_natCast,wo (by omega),cond_true,ai (by omega),wr' (x:=(k:Int)+1) (by omega),wr' (by omega),mI]
theorem QU (h10:p.buses≤10) {x:aA} {cut:List Bool} (h:Sv p s x cut):oD p s=some (decide (PS p x=aen p),0):=by
 have hrl:=hp.rl
 unfold oD
 rw [dK p s hp.small,eG.mpr ⟨hp,hs⟩,Option.bind_some,decide_eq_true rfl,Bool.not_true,cond_false,qY p.racks.length (fun r=>(at' p.racks r).power) 0 (by omega) (fun i hi=>by have:=(hp.rck i hi).power;omega) (by omega) (fun k y hk hy=> ?_) (fun y=>by unfold uJ;simp)]
 ·simp only [Option.bind_some]
  rw [Ij hp hs h10 h,Option.bind_some,Int.zero_add];rfl
 ·have hw:=(hp.rck k hk).power
  unfold uJ
  dsimp only
  rw [Int.toNat_natCast,wo (by omega),cond_true,ai (by omega),wr' (x:=(k:Int)+1) (by omega),wr' (by omega),mI]
theorem XW (C:Nat→Bool):(YJ p s C).length≤100:=by
 have hsl:=hp.sl;have hll:=hp.ll
 have l1:=vE (Em p s C) p.sources.length
 have l2:=vE (Hw p s C) p.links.length
 unfold YJ;rw [List.length_append];omega
end
theorem Bj (l:List Part) (h:l.length≤100000):lV l l=some true:=by
 unfold lV
 rw [AB (body:=lQ l l) l (by omega) (fun t ht=> ?_) (by unfold lQ;simp)]
 ·simp
 ·unfold lQ
  rw [decide_eq_true (show(t:Int)<(l.length:Int) by omega),cond_true,ai ⟨by omega,by omega⟩,wr (by omega)]
  simp
theorem GK (p:ah) (s:State) (hp:Small p) (hr:Rw s) (ht: ∀x∈p.links,x.trip.length≤8796093021952):jy p s=some true:=by
 unfold jy qF
 rw [XH,xC p hp,Option.bind_some]
 generalize hbig:(bif (bif (decide (60<(p.sources.length:Int)))then true else(decide (60<(p.links.length:Int))))then true else(decide (60<(p.racks.length:Int))))=big
 cases big with
 |true=>rfl
 |false=>
  have h60:p.sources.length≤60∧p.links.length≤60∧p.racks.length≤60:=by
   by_cases c1:60<(p.sources.length:Int)
   ·rw [decide_eq_true c1]at hbig;cases hbig
   ·by_cases c2:60<(p.links.length:Int)
    ·rw [decide_eq_false c1,decide_eq_true c2]at hbig;cases hbig
    ·by_cases c3:60<(p.racks.length:Int)
     ·rw [decide_eq_false c1,decide_eq_false c2,decide_eq_true c3]at hbig;cases hbig
     ·omega
  obtain⟨b1,b2,b3⟩:=h60
  rw [cond_false,Option.bind_some]
  generalize hbig2:(bif decide (lK p=0)then(bif (decide (10<p.buses))then true else(decide (16<(p.links.length:Int))))else false)=big2
  cases big2 with
  |true=>rfl
  |false=>
   rw [cond_false,Iw p b1 b2 b3 ht,Option.bind_some,Jk s hr,Option.bind_some,dK p s hp,JF p b1 b2 b3 ht,JP s hr]
   by_cases h0:iy p s=0
   ·obtain⟨hv,hs⟩:=eG.mp h0
    have h10:p.buses≤10:=by
     rw [decide_eq_true (qA.mpr hv),cond_true]at hbig2
     by_cases c1:10<p.buses
     ·rw [decide_eq_true c1]at hbig2;cases hbig2
     ·omega
    obtain⟨x,cut,e,h⟩:=Om hv hs
    rw [e,Option.bind_some,VZ hv hs e h,Option.bind_some,Yf hv hs e h,Option.bind_some,Pn hv hs h10 h,Option.bind_some,QU hv hs h10 h,Option.bind_some,h0,Option.bind_some]
    simp only [decide_true,Bool.not_true,cond_false,show gB [(false,false)]=true from rfl,cond_true]
    rw [Bj _ (by have:=XW hv hs (at' cut);omega)]
    simp only [Option.bind_some,Bool.not_true,cond_false,beq_self_eq_true,show gB [(false,false)]=true from rfl,cond_true]
    rw [Ij hv hs h10 h,Option.bind_some,h.ps.amount hv hs,Option.bind_some,je _ _ (by have:=h.cl;have:=hv.b;omega),wC hp s x]
    unfold Ct
    rw [if_pos h0,if_pos (h.ps.adp hv hs)]
    simp [gB]
   ·have e:=TD hp h0
    have e2:kY p s=some ([],iy p s):=by
     unfold kY;rw [e,Option.bind_some];dsimp only;rw [decide_eq_false h0];rfl
    have e3:nT p s=some (false,iy p s):=by
     unfold nT;rw [e,Option.bind_some];dsimp only;rw [decide_eq_false h0];rfl
    have e4:mg p s=some ([],iy p s):=by
     unfold mg;rw [dK p s hp,Option.bind_some,decide_eq_false h0];rfl
    have e5:oD p s=some (false,iy p s):=by
     unfold oD;rw [dK p s hp,Option.bind_some,decide_eq_false h0];rfl
    rw [e,Option.bind_some,e2,Option.bind_some,e3,Option.bind_some,e4,Option.bind_some,e5,Option.bind_some,Option.bind_some]
    simp only [decide_true,Bool.not_true,cond_false,show gB [(false,false)]=true from rfl,cond_true]
    rw [Bj [] (by simp)]
    simp only [Option.bind_some,Bool.not_true,cond_false,beq_self_eq_true,show gB [(false,false)]=true from rfl,cond_true]
    rw [decide_eq_false h0]
    rfl
def smA (p:ah) (s:State) (b n:Int):Option (aM Int (Ex Unit Bool)):=
 (jy p s).bind fun r_1=>
 (bif gB [((!r_1),false)]then jw p s b ([]:List Short)else some default).bind fun r_2=>
 bn (gB [((!r_1),false)]=true→5≠(0:Int)) (
 bif (bif (!r_1)then true else(!r_2))then
 some (.done (.ret false))
 else
 some (.next (IntKind.wrap .i64 (n+1))))
theorem WI {p:ah} {s:State} {b n:Int} (hp:Small p) (hr:Rw s) (ht: ∀x∈p.links,x.trip.length≤8796093021952):smA p s b n=some (.next (IntKind.wrap .i64 (n+1))):=by
 unfold smA
 rw [GK p s hp hr ht,Option.bind_some,GR p s b [] hp]
 rfl
def Fa (n:Int) (k:Nat):Bool:=decide ((IntKind.wrap .i64 (((BitVec.ofInt (IntKind.bits .i64) (Int.fdiv n (2 ^ min k (IntKind.bits .i64))) &&& BitVec.ofInt (IntKind.bits .i64) 1).toNat:Int)))=1)
def smP (n:Int):ah:=⟨3,[⟨0,1,500,0,20⟩,⟨2,2,300,0,40⟩],[⟨0,1,3,400,10,[]⟩,⟨1,2,3,400,10,[]⟩],[⟨⟨1, -1⟩,100,1⟩,⟨⟨1,2⟩,350,1⟩,⟨⟨1, -1⟩,IntKind.wrap .i64 ((1:Int)+(Int.tmod n 700)),1⟩]⟩
def smS (n:Int):State:=⟨[Fa n 0,Fa n 1],[false,false],[Fa n 2,false],[Fa n 3,Fa n 4],[Fa n 5,false],[false,false,false],[Fa n 6,Fa n 7,Fa n 8]⟩
theorem agP (n:Int) (h:decide (n<512)=true):iC n=smA (smP n) (smS n) (IntKind.wrap .i64 ((Int.tmod n 5) - 1)) n:=by
 unfold iC
 rw [h]
 kernel_rfl
theorem TM (n:Nat) (h:n<512):iC (n:Int)=some (.next ((n+1:Nat):Int)):=by
 rw [agP n (decide_eq_true (by omega)),WI ⟨by show 2≤_;omega,by show 2≤_;omega,by show 3≤_;omega, ?_⟩ ⟨by show 2≤_;omega,by show 2≤_;omega,by show 2≤_;omega,by show 2≤_;omega,by show 2≤_;omega,by show 3≤_;omega,by show 3≤_;omega⟩ ?_]
 ·rw [wr (by omega)];rfl
 ·intro x hx
  simp only [smP,List.mem_cons,List.not_mem_nil,or_false]at hx
  rcases hx with rfl|rfl<;>simp
 ·intro x hx
  simp only [smP,List.mem_cons,List.not_mem_nil,or_false]at hx
  rcases hx with rfl|rfl<;>simp
def Wu (n1:Int):Option (ah × State):=
 Option.bind (ay (nR n1) FUEL (([]:List Source),0)) fun o=>match o with
 | .ret v=>none
 | .brk p11=>
 Option.bind (ay (nP n1) FUEL (([]:List Link),0)) fun o=>match o with
 | .ret v=>none
 | .brk p21=>
 Option.bind (ay nk FUEL (p21,0)) fun o=>match o with
 | .ret v=>none
 | .brk p23=>
 Option.bind (ay (ni n1) FUEL (([]:List aD),0)) fun o=>match o with
 | .ret v=>none
 | .brk p31=>
 (qb (⟨24,p11,p23,p31⟩:ah)).bind fun r_4=>
 bif (!decide (r_4.2=0))then none else
 Option.bind (ay (nC n1) FUEL (r_4.1.on_,0)) fun o=>match o with
 | .ret v=>none
 | .brk s31=>some (⟨24,p11,p23,p31⟩,⟨r_4.1.closed,r_4.1.locked,r_4.1.badLink,s31,r_4.1.badSource,r_4.1.earthed,r_4.1.badBus⟩)
def smB (p:ah) (s:State) (n1:Int):Option (aM Int (Ex Unit Bool)):=
 (bN p s).bind fun r_5=>
 (bif gB [((!decide (r_5.2.2=0)),false)]then lY p s r_5.1 r_5.2.1 else some default).bind fun r_6=>
 bif (bif (!decide (r_5.2.2=0))then true else(!decide (r_6=0)))then
 some (.done (.ret false))
 else
 some (.next (IntKind.wrap .i64 (n1+1)))
theorem agA (n1:Int) (h:decide (n1<6)=true) {p:ah} {s:State} (hg:Wu n1=some (p,s)):iB n1=smB p s n1:=by
 unfold iB
 rw [h,cond_true]
 unfold Wu at hg
 cases e1:ay (nR n1) FUEL (([]:List Source),0)with
 |none=>rw [e1]at hg;cases hg
 |some o1=>cases o1 with
  |ret v=>rw [e1]at hg;cases hg
  |brk p11=>
   rw [e1]at hg
   simp only [Option.bind_some]at hg ⊢
   cases e2:ay (nP n1) FUEL (([]:List Link),0)with
   |none=>rw [e2]at hg;cases hg
   |some o2=>cases o2 with
    |ret v=>rw [e2]at hg;cases hg
    |brk p21=>
     rw [e2]at hg
     simp only [Option.bind_some]at hg ⊢
     cases e3:ay nk FUEL (p21,0)with
     |none=>rw [e3]at hg;cases hg
     |some o3=>cases o3 with
      |ret v=>rw [e3]at hg;cases hg
      |brk p23=>
       rw [e3]at hg
       simp only [Option.bind_some]at hg ⊢
       cases e4:ay (ni n1) FUEL (([]:List aD),0)with
       |none=>rw [e4]at hg;cases hg
       |some o4=>cases o4 with
        |ret v=>rw [e4]at hg;cases hg
        |brk p31=>
         rw [e4]at hg
         simp only [Option.bind_some]at hg ⊢
         cases e5:qb (⟨24,p11,p23,p31⟩:ah)with
         |none=>rw [e5]at hg;cases hg
         |some r_4=>
          rw [e5]at hg
          simp only [Option.bind_some]at hg ⊢
          cases e6:decide (r_4.2=0)with
          |false=>rw [e6]at hg;cases hg
          |true=>
           rw [e6]at hg
           simp only [Bool.not_true,cond_false]at hg ⊢
           cases e7:ay (nC n1) FUEL (r_4.1.on_,0)with
           |none=>rw [e7]at hg;cases hg
           |some o7=>cases o7 with
            |ret v=>rw [e7]at hg;cases hg
            |brk s31=>
             rw [e7]at hg
             simp only [Option.bind_some]at hg ⊢
             cases hg
             rfl
def KA (p:ah) (s:State):Bool:=decide (p.sources.length≤100) && decide (p.links.length≤100) && decide (p.racks.length≤100) && p.links.all (fun x=>decide (x.trip.length≤100)) && decide (iy p s=0)
theorem WV {p:ah} {s:State} (h:KA p s=true) (n1:Int):smB p s n1=some (.next (IntKind.wrap .i64 (n1+1))):=by
 unfold KA at h
 simp only [Bool.and_eq_true,decide_eq_true_eq,List.all_eq_true]at h
 obtain⟨⟨⟨⟨h1,h2⟩,h3⟩,h4⟩,h5⟩:=h
 have hsm:Small p:=⟨by omega,by omega,by omega,fun x hx=>by have:=h4 x hx;omega⟩
 obtain⟨hv,hs⟩:=eG.mp h5
 obtain⟨x,cut,e,hx⟩:=Om hv hs
 have hc:=hx.cert hv hs
 have hl:x.racks.length≤1000000:=by rw [hx.ps.l3];omega
 rw [Ir hsm s x hl]at hc
 unfold smB
 rw [e,Option.bind_some]
 dsimp only
 rw [Ke hsm s x hl,hc]
 rfl
theorem agN:(Wu ((0:Nat):Int)).any (fun x=>KA x.1 x.2)=true:=by kernel_rfl
theorem agz:(Wu ((1:Nat):Int)).any (fun x=>KA x.1 x.2)=true:=by kernel_rfl
theorem agK:(Wu ((2:Nat):Int)).any (fun x=>KA x.1 x.2)=true:=by kernel_rfl
theorem agX:(Wu ((3:Nat):Int)).any (fun x=>KA x.1 x.2)=true:=by kernel_rfl
theorem agx:(Wu ((4:Nat):Int)).any (fun x=>KA x.1 x.2)=true:=by kernel_rfl
theorem agY:(Wu ((5:Nat):Int)).any (fun x=>KA x.1 x.2)=true:=by kernel_rfl
theorem abH (n:Nat) (h:n<6): ∃p s,Wu (n:Int)=some (p,s)∧KA p s=true:=by
 have key: ∀n:Nat,n<6→(Wu (n:Int)).any (fun x=>KA x.1 x.2)=true:=fun n hn=>
  match n,hn with
  |0,_=>agN
  |1,_=>agz
  |2,_=>agK
  |3,_=>agX
  |4,_=>agx
  |5,_=>agY
  |n+6,h=>absurd h (by omega)
 have hk:=key n h
 cases hg:Wu (n:Int)with
 |none=>rw [hg]at hk;cases hk
 |some x=>rw [hg]at hk;exact⟨x.1,x.2,rfl,hk⟩
theorem SE (n:Nat) (h:n<6):iB (n:Int)=some (.next ((n+1:Nat):Int)):=by
 obtain⟨p,s,hg,ho⟩:=abH n h
 rw [agA n (decide_eq_true (by omega)) hg,WV ho,wr (by omega)];rfl
theorem JQ:mO=some true:=by
 unfold mO
 have e0:ay iC FUEL 0=some (.brk ()):=aY (fun i=>(i:Int)) 512 (.brk ()) (fuel_lt (by omega)) (fun i hi=>TM i hi) (by kernel_rfl)
 have e1:ay iB FUEL 0=some (.brk ()):=aY (fun i=>(i:Int)) 6 (.brk ()) (fuel_lt (by omega)) (fun i hi=>SE i hi) (by kernel_rfl)
 rw [e0,e1,xq];rfl
end Sg
