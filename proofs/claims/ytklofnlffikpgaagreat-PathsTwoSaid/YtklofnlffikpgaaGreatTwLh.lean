import Derived.Test.YtklofnlffikpgaaGreatTwLg
set_option linter.all false
namespace Sg
open Go
theorem Rj {ρ:Type} (l:List Part) (hl:l.length≤100000) (pr:Part→Bool) {body:(List Part × Int × Int)→Option (bC (List Part × Int × Int) (Ex (List Part × Int) ρ))}
  (hb: ∀(o:List Part) (i j:Nat),j<l.length→o.length=l.length→i≤j→at' o j=at' l j→body (o,(i:Int),(j:Int))=some (.next (bif pr (at' l j)then(o,(i:Int),(j:Int)+1)else(o.set i (at' l j),(i:Int)+1,(j:Int)+1))))
  (he: ∀(o:List Part) (i:Int),o.length=l.length→body (o,i,(l.length:Int))=some (.done (.brk (o,i)))) {k:Nat} (hk:k<l.length) (hkb:pr l[k]=true) (hkn: ∀j (h:j<l.length),j<k→pr l[j]=false):
  ∃(o:List Part) (i:Nat),aG body FUEL (l,(k:Int),(k:Int)+1)=some (.brk (o,(i:Int)))∧i≤o.length∧o.take i=l.filter (fun x=> !pr x):=by
 obtain⟨r,hr,o,i,rfl,h1,h2⟩:=nD (body:=body) (fun q=> ∃i j:Nat,q.2.1=(i:Int)∧q.2.2=(j:Int)∧i≤j∧j≤l.length∧q.1.length=l.length∧q.1.take i=(l.take j).filter (fun x=> !pr x)∧ ∀k,j≤k→k<l.length→at' q.1 k=at' l k) (fun q=>l.length - q.2.2.toNat)
  (fun r=> ∃(o:List Part) (i:Nat),r= .brk (o,(i:Int))∧i≤o.length∧o.take i=l.filter (fun x=> !pr x)) (fun q hq=>by
   obtain⟨o,ii,jj⟩:=q
   obtain⟨i,j,hi,hj,hij,hjl,hol,ht,hk⟩:=hq
   dsimp only at hi hj hol ht hk
   subst hi hj
   by_cases hc:j<l.length
   ·refine⟨_,hb o i j hc hol hij (hk j (Nat.le_refl j) hc), ?_⟩
    cases hpr:pr (at' l j)with
    |true=>
     refine⟨⟨i,j+1,rfl,rfl,by omega,hc,hol, ?_,fun k h1 h2=>hk k (by omega) h2⟩,by simp only [cond_true];omega⟩
     rw [d9 hc,List.filter_append]
     simp only [cond_true]
     rw [ht]
     simp [hpr]
    |false=>
     refine⟨⟨i+1,j+1,rfl,rfl,by omega,hc,by simp only [cond_false,List.length_set];exact hol, ?_,fun k h1 h2=> ?_⟩,by simp only [cond_false];omega⟩
     ·simp only [cond_false]
      rw [d9 (by rw [List.length_set];omega),d9 hc,List.filter_append,bV (by omega),List.take_set_of_le (Nat.le_refl i),ht]
      simp [hpr]
     ·simp only [cond_false]
      rw [aX (by omega)]
      exact hk k (by omega) h2
   ·have:j=l.length:=by omega
    subst this
    exact⟨_,he o i hol,o,i,rfl,by omega,by rw [ht,List.take_length]⟩) FUEL (l,(k:Int),(k:Int)+1) ⟨k,k+1,rfl,rfl,by omega,hk,rfl,by
    dsimp only
    rw [d9 hk,List.filter_append,bX hk]
    simp only [List.filter_cons,hkb,Bool.not_true,List.filter_nil,Bool.false_eq_true,if_false,List.append_nil]
    symm
    rw [List.filter_eq_self]
    intro x hxm
    obtain⟨m,hm,e⟩:=List.mem_take_iff_getElem.1 hxm
    have:=hkn m (by omega) (by omega)
    rw [e]at this
    rw [this];rfl,fun _ _ _=>rfl⟩ (fuel_lt (by dsimp only;omega))
 exact⟨o,i,hr,h1,h2⟩
section
variable {p:ah} {s:State} (hp:VP p) (hs:VS p s) {k:Nat} (hk:k<p.racks.length)
include hp hs hk
theorem uN:lG p s k=true↔Fd p s k:=by
 have hr:=hp.rck k hk;have r0:=hr.e0;have r1:=hr.e1
 unfold lG yB
 rw [Bool.or_eq_true]
 dsimp only
 constructor
 ·rintro (h|h)
  ·exact⟨0,by omega,r0.1,(nR hp hs (b:=(at' p.racks k).feeds.e0.toNat) (by omega)).1 h⟩
  ·by_cases h0:0≤(at' p.racks k).feeds.e1
   ·rw [decide_eq_true h0,cond_true]at h
    exact⟨1,by omega,h0,(nR hp hs (b:=(at' p.racks k).feeds.e1.toNat) (by omega)).1 h⟩
   ·rw [decide_eq_false h0,cond_false]at h;cases h
 ·rintro ⟨t,ht,h0,hL⟩
  match t,ht with
  |0,_=>exact .inl ((nR hp hs (b:=(at' p.racks k).feeds.e0.toNat) (by omega)).2 hL)
  |1,_=>
   have h0:0≤(at' p.racks k).feeds.e1:=h0
   rw [decide_eq_true h0,cond_true]
   exact .inr ((nR hp hs (b:=(at' p.racks k).feeds.e1.toNat) (by omega)).2 hL)
omit hk in
theorem QE {x:Part} (hx:jk p x): ∃ix,Vu p s (aS s x true) ix:=by
 have hb:=hp.b
 have h7:=hs.badBus;have h3:=hs.badLink;have h5:=hs.badSource
 obtain⟨c,j⟩:=x
 obtain⟨h0,h⟩:=hx
 dsimp only at h0 h
 rcases h with⟨rfl,hj⟩|⟨rfl,hj⟩|⟨rfl,hj⟩
 ·have e:aS s ⟨1,j⟩ true=⟨s.closed,s.locked,s.badLink,s.on_,s.badSource,s.earthed,s.badBus.set j.toNat true⟩:=by unfold aS;rw [if_pos rfl]
  rw [e]
  refine⟨j.toNat,fun m hm _ h2 hf=> ?_,fun m hm _ h2 h3 hc=> ?_,fun b hb' hl q=> ?_⟩
  ·unfold eP at hf ⊢
   dsimp only
   rw [aX (Ne.symm h2)];exact hf
  ·unfold iA at hc ⊢
   dsimp only
   rw [aX (Ne.symm h2),aX (Ne.symm h3)];exact hc
  ·subst q
   have:=hl.1
   dsimp only at this
   rw [bV (by omega)]at this;cases this
 ·have e:aS s ⟨2,j⟩ true=⟨s.closed,s.locked,s.badLink,s.on_,s.badSource.set j.toNat true,s.earthed,s.badBus⟩:=by unfold aS;rw [if_neg (show ¬ (2:Int)=1 by decide),if_pos rfl]
  rw [e]
  refine⟨p.buses.toNat+j.toNat,fun m hm h1 _ hf=> ?_,fun m hm _ _ _ hc=>hc,fun b hb' hl q=>by omega⟩
  unfold eP at hf ⊢
  dsimp only
  rw [aX (by omega)];exact hf
 ·have e:aS s ⟨3,j⟩ true=⟨s.closed,s.locked,s.badLink.set j.toNat true,s.on_,s.badSource,s.earthed,s.badBus⟩:=by unfold aS;rw [if_neg (show ¬ (3:Int)=1 by decide),if_neg (show ¬ (3:Int)=2 by decide)]
  rw [e]
  refine⟨p.buses.toNat+p.sources.length+j.toNat,fun m hm _ _ hf=>hf,fun m hm h1 _ _ hc=> ?_,fun b hb' hl q=>by omega⟩
  unfold iA at hc ⊢
  dsimp only
  rw [aX (by omega)];exact hc
theorem yK:gH p s (k:Int)=some 0:=by
 unfold gH
 rw [kC p s hp.small,lJ.mpr ⟨hp,hs⟩,Option.bind_some,decide_eq_true rfl,Bool.not_true,cond_false,decide_eq_false (by omega),cond_false,decide_eq_false (by omega),cond_false]
def pz (p:ah) (s:State) (k:Nat):List Part:=(y8 p s).filter fun x=> !lG p (aS s x true) k
theorem Jq {x:Part} (hx:jk p x):iJ x p.buses p.sources p.links p.racks s.closed s.locked s.badLink s.on_ s.badSource s.earthed s.badBus (k:Int)=some (lG p (aS s x true) k):=by
 unfold iJ mQ
 have h1:=FO hp hs hx true
 have h1:jK ⟨p.buses,p.sources,p.links,p.racks⟩ ⟨s.closed,s.locked,s.badLink,s.on_,s.badSource,s.earthed,s.badBus⟩ x true=_:=h1
 rw [h1,Option.bind_some,Option.bind_some]
 have h2:=Hy hp (VS.aS hs x true) hk
 have h2:nH ⟨p.buses,p.sources,p.links,p.racks⟩ (aS s x true) (k:Int)=_:=h2
 dsimp only
 rw [h2];rfl
theorem I6:fw p s (k:Int)=some (bif lG p s k then pz p s k else [],0):=by
 have h72:=Fj (s:=s) hp
 unfold fw
 rw [yK hp hs hk,Option.bind_some,decide_eq_true rfl,Bool.not_true,cond_false,Hy hp hs hk,Option.bind_some]
 cases lG p s k with
 |false=>rfl
 |true=>
  rw [Bool.not_true,cond_false,QL hp hs,Option.bind_some,cond_true]
  have hi: ∀x∈y8 p s,jk p x:=fun x hx=>A9 hp hx
  have key:gY (y8 p s) p.buses p.sources p.links p.racks s.closed s.locked s.badLink s.on_ s.badSource s.earthed s.badBus (k:Int)=some (pz p s k):=by
   unfold pz
   generalize y8 p s=l at h72 hi
   unfold gY
   have hidx:fU l p.buses p.sources p.links p.racks s.closed s.locked s.badLink s.on_ s.badSource s.earthed s.badBus (k:Int)=some (match l.findIdx? (fun x=>lG p (aS s x true) k)with|some i=>(i:Int)|none=> -1):=by
    unfold fU
    rw [gM l (fun x=>lG p (aS s x true) k) id (by omega) (fun i hil=> ?_) ?_]
    ·cases l.findIdx? (fun x=>lG p (aS s x true) k)<;>rfl
    ·unfold gZ
     rw [nJ (by omega)];rfl
    ·unfold gZ
     rw [Int.toNat_natCast,Jq hp hs hk (hi _ (at_mem hil))]
     exact kT hil (by omega) _ id _
   rw [hidx,Option.bind_some]
   cases h:l.findIdx? (fun x=>lG p (aS s x true) k)with
   |none=>
    dsimp only
    rw [decide_eq_true rfl,cond_true]
    congr 1
    symm
    rw [List.filter_eq_self]
    intro x hxm
    have:=List.findIdx?_eq_none_iff.1 h x hxm
    rw [this];rfl
   |some m=>
    obtain⟨hm,hmb,hmn⟩:=List.findIdx?_eq_some_iff_getElem.1 h
    dsimp only
    rw [decide_eq_false (by omega),cond_false,wr (by omega)]
    obtain⟨o,i,hr,h1,h3⟩:=Rj l (by omega) (fun x=>lG p (aS s x true) k) (body:=fF p.buses p.sources p.links p.racks s.closed s.locked s.badLink s.on_ s.badSource s.earthed s.badBus (k:Int)) (fun o i j hj hol hij hat=>by
     unfold fF
     dsimp only
     rw [xV (by omega),cond_true,aj ⟨by omega,by omega⟩,Int.toNat_natCast,hat,Jq hp hs hk (hi _ (at_mem hj)),Option.bind_some,aj ⟨by omega,by omega⟩,wr (by omega),wr (by omega),Int.toNat_natCast]
     cases lG p (aS s (at' l j) true) k<;>rfl) (fun o i hol=>by
     unfold fF
     dsimp only
     rw [nJ (by omega)];rfl) hm hmb (fun j hj hjm=>by have:=hmn j hjm;simpa using this)
    rw [hr,Option.bind_some]
    dsimp only
    have hc:=zf o i (⟨0,0⟩:Part)
    rw [aj ⟨by omega,by omega⟩,Int.toNat_natCast,aj ⟨by omega,by omega⟩,FD,h3]
  rw [key];rfl
end
def Qc (x y:Part):Bool:=(decide (x.kind=y.kind)) && ((decide (x.index=y.index)) && true)
theorem LA {x y:Part}:Qc x y=true↔x=y:=by
 obtain⟨a,b⟩:=x;obtain⟨c,d⟩:=y
 simp [Qc]
section
variable {p:ah} {s:State} {l:List Transfer} (hp:VP p) (hs:VS p s) (hl:l.length≤16) (hx: ∀x∈l,Ea p x)
include hp hs hx
theorem IA {x:Part} {k:Nat} (hk:k<p.racks.length) (h:lG p (aS s x true) k=true):lG p (KW p s l [x]) k=true:=by
 have hv:=VS.aS hs x true
 have hb:=hp.b
 have g:=(JM hp hx hv).1
 have ha:=PE (l:=l) hp hs hx [x]
 obtain⟨t,ht,h0,hL⟩:=(uN hp hv hk).1 h
 have hr:=qX hp hk ht
 exact(uN hp ha hk).2 ⟨t,ht,h0,g.live _ (by omega) hL⟩
include hl
end
theorem zk {α:Type} [Inhabited α] (l:List α) (a n:Nat):(vJ l a n).length=n:=by unfold vJ;simp
def Ko (e1:List (Int × List Int)):Int→List Nat→Prop
  |u,[]=> -2∈aB u e1
  |u,i::L=>2*(i:Int)∈aB u e1∧Ko e1 (2*(i:Int)+1) L
def Yc (u:Int) (L:List Nat):Nat→Int
  |0=>u
  |a+1=>2*((at' L a:Nat):Int)+1
theorem zx {α:Type} [Inhabited α] (x:α) (l:List α):at' (x::l) 0=x:=by simp [at']
theorem HV {α:Type} [Inhabited α] (x:α) (l:List α) (n:Nat):at' (x::l) (n+1)=at' l n:=by simp [at']
theorem SC {α:Type} [Inhabited α] (l:List α) (x:α):at' (l++[x]) l.length=x:=by
  rw [bX (by simp)];simp
theorem uG {e1:List (Int × List Int)}: ∀(L:List Nat) (u:Int),Ko e1 u L→ ∀a,a<L.length→2*((at' L a:Nat):Int)∈aB (Yc u L a) e1
  |[],_,_,a,h=>by simp at h
  |i::L,u,hc,0,_=>by rw [zx];exact hc.1
  |i::L,u,hc,a+1,h=>by
    have:=uG L _ hc.2 a (by simpa using h)
    rw [HV]
    cases a with
    |zero=>show _∈aB (2*((at' (i::L) 0:Nat):Int)+1) e1;rw [zx];exact this
    |succ c=>show _∈aB (2*((at' (i::L) (c+1):Nat):Int)+1) e1;rw [HV];exact this
theorem F9 {e1:List (Int × List Int)} (hI:WN e1) {L1 L2:List Nat} (h1:Ko e1 (-1) L1) (h2:Ko e1 (-1) L2): ∀a b,a<L1.length→b<L2.length→at' L1 a=at' L2 b→a=b∧at' L1 0=at' L2 0
  |0,0,_,_,e=> ⟨rfl,e⟩
  |0,b+1,ha,hb,e=>by
    have p1:=uG L1 _ h1 0 ha;have p2:=uG L2 _ h2 (b+1) hb
    rw [e]at p1
    have:=hI _ _ _ (by omega) p1 p2
    simp only [Yc]at this
    omega
  |a+1,0,ha,hb,e=>by
    have p1:=uG L1 _ h1 (a+1) ha;have p2:=uG L2 _ h2 0 hb
    rw [e]at p1
    have:=hI _ _ _ (by omega) p1 p2
    simp only [Yc]at this
    omega
  |a+1,b+1,ha,hb,e=>by
    have p1:=uG L1 _ h1 (a+1) ha;have p2:=uG L2 _ h2 (b+1) hb
    rw [e]at p1
    have:=hI _ _ _ (by omega) p1 p2
    simp only [Yc]at this
    obtain⟨q1,q2⟩:=F9 hI h1 h2 a b (by omega) (by omega) (by omega)
    exact⟨by omega,q2⟩
theorem Ip {e1:List (Int × List Int)} (hI:WN e1) {L:List Nat} (h:Ko e1 (-1) L):L.Nodup:=by
  unfold List.Nodup
  rw [List.pairwise_iff_getElem]
  intro i j hi hj hij e
  rw [←bX hi,←bX hj]at e
  have:=(F9 hI h h i j hi hj e).1
  omega
theorem Oq {e1:List (Int × List Int)} (hI:WN e1) {L1 L2:List Nat} (h1:Ko e1 (-1) L1) (h2:Ko e1 (-1) L2) (hne:at' L1 0≠at' L2 0): ∀x∈L1,∀y∈L2,x≠y:=fun x hx y hy e=>by
  obtain⟨a,ha,ea⟩:=dV hx
  obtain⟨b,hb,eb⟩:=dV hy
  exact hne (F9 hI h1 h2 a b ha hb (by rw [ea,eb,e])).2
section
variable {M P:Nat} {B:Int→Int→Prop} {e0 e1:List (Int × List Int)} {K:Nat} (hM:M=2*P+2) (g:GI M B e0 e1) (nb:NB P B) (fl:FL K e1)
include hM g nb fl
theorem RU {ps:List Part} (hps:ps.length=P) (hP:P≤1000) (q:Int × List Part) (hq:WI P M e1 q):(q.1= -2∧bL ⟨ps,⟨e0,e1⟩⟩ q=some (.done (.brk q.2)))∨
    ∃i:Nat,i<P∧q.1=2*(i:Int)∧0<(aB (2*(i:Int)+1) e1).length∧bL ⟨ps,⟨e0,e1⟩⟩ q=some (.next (at' (aB (2*(i:Int)+1) e1) 0,q.2++[at' ps i])):=by
  obtain⟨a,way⟩:=q
  unfold bL
  dsimp only
  by_cases h2:a= -2
  · exact .inl ⟨h2,by subst h2;rfl⟩
  · rcases hq with⟨hq,_⟩|⟨i,hi,hai,T,hT,hTe,haT,hlen,hpre⟩
    · exact absurd hq h2
    · dsimp only at hai haT hlen hpre
      obtain⟨x,hx,_⟩:=hpre a haT
      have hgo:=LC g nb fl (i:=i) (x:=x) (hai ▸ hx)
      have hTl:T.length≤M:=Ay M T hT fun w hw=>by
        obtain⟨j,hj,e⟩:=hTe w hw
        omega
      have ht:Int.tdiv a 2=(i:Int):=by rw [hai,Int.mul_tdiv_cancel_left _ (by decide)]
      refine .inr ⟨i,hi,hai,hgo, ?_⟩
      rw [decide_eq_false h2,Bool.not_false,cond_true,ht,wr (x:=(i:Int)) (by omega),aj ⟨by decide,⟨by omega,by omega⟩,by rw [List.length_singleton];omega,by rw [List.length_singleton];omega⟩,wr (x:=a+1) (by omega),tQ,hai,aj ⟨by omega,by omega⟩,Int.toNat_natCast]
def CI (P:Nat) (ps:List Part) (e1:List (Int × List Int)) (x:Nat) (q:Int × List Part):Prop:=
  (q.1= -2∧ ∃L',q.2=(x::L').map (at' ps)∧(∀i∈x::L',i<P)∧Ko e1 (2*(x:Int)+1) L')∨
  ∃(i:Nat) (L:List Nat),i<P∧q.1=2*(i:Int)∧q.2=L.map (at' ps)∧(∀j∈L,j<P)∧ ∀R,Ko e1 (2*(i:Int)+1) R→ ∃L',L++i::R=x::L'∧Ko e1 (2*(x:Int)+1) L'
theorem MV {ps:List Part} (hps:ps.length=P) (hP:P≤1000) {x:Nat} (q:Int × List Part) (hq:WI P M e1 q) (hc:CI P ps e1 x q): ∃f,bL ⟨ps,⟨e0,e1⟩⟩ q=some f∧match f with
    | .next q'=>(WI P M e1 q'∧CI P ps e1 x q')∧M+5 - q'.2.length<M+5 - q.2.length
    | .done r=> ∃w,r= .brk w∧ ∃L',w=(x::L').map (at' ps)∧(∀i∈x::L',i<P)∧Ko e1 (2*(x:Int)+1) L':=by
  obtain⟨f,hf,hpost⟩:=HY hM g nb fl hps hP q hq
  rcases RU hM g nb fl hps hP q hq with⟨h2,hv⟩|⟨i,hi,hai,hgo,hv⟩
  · rw [hv]at hf
    cases hf
    refine⟨_,hv,_,rfl, ?_⟩
    rcases hc with⟨_,h⟩|⟨i,L,_,hq1,_⟩
    · exact h
    · omega
  · rw [hv]at hf
    cases hf
    refine⟨_,hv,⟨hpost.1, ?_⟩,hpost.2⟩
    rcases hc with⟨h2,_⟩|⟨i',L,hi',hq1,hq2,hL,hR⟩
    · omega
    · have:i'=i:=by omega
      subst this
      have hm:=at_mem hgo
      rcases nb.odd i' _ ((g.base _ _).2 (.inr hm))with e|⟨j,hj,e⟩
      · obtain⟨L',e1',hch⟩:=hR [] (by show -2∈aB _ e1;rw [←e];exact hm)
        refine .inl ⟨e,L', ?_, ?_,hch⟩
        · rw [←e1',List.map_append,hq2];rfl
        · rw [←e1'];intro k hk
          rcases List.mem_append.1 hk with hk|hk
          · exact hL k hk
          · rw [List.mem_singleton]at hk;omega
      · refine .inr ⟨j,L++[i'],hj,e,by dsimp only;rw [List.map_append,hq2];rfl,fun k hk=> ?_,fun R hRc=> ?_⟩
        · rcases List.mem_append.1 hk with hk|hk
          · exact hL k hk
          · rw [List.mem_singleton]at hk;omega
        · obtain⟨L',e1',hch⟩:=hR (j::R) ⟨by rw [←e];exact hm,hRc⟩
          exact⟨L',by rw [←e1'];simp,hch⟩
def BQ (P K:Nat) (ps:List Part) (e1:List (Int × List Int)) (W:List (List Part)) (Ls:List (List Nat)):Prop:=
  W=Ls.map (List.map (at' ps))∧Ls.length=K∧ ∀t,t<K→ ∃x L',at' Ls t=x::L'∧at' (aB (-1) e1) t=2*(x:Int)∧Ko e1 (-1) (at' Ls t)∧ ∀i∈at' Ls t,i<P
theorem QB {ps:List Part} (hps:ps.length=P) (hP:P≤1000) (hK:K≤1000): ∃W Ls,dI ⟨ps,⟨e0,e1⟩⟩=some W∧BQ P K ps e1 W Ls:=by
  have hs:=GZ g nb fl
  obtain⟨r,hr,W,rfl,Ls,hW⟩:=nD (body:=fO ⟨ps,⟨e0,e1⟩⟩) (fun q=> ∃t:Nat,q.2=(t:Int)∧t≤K∧ ∃Ls,BQ P t ps e1 q.1 Ls) (fun q=>K - q.2.toNat) (fun r=> ∃W,r= .brk W∧ ∃Ls,BQ P K ps e1 W Ls) (fun q hq=>by
    obtain⟨out,tt⟩:=q
    obtain⟨t,ht,htK,Ls,hW,hlen,hall⟩:=hq
    dsimp only at ht hW
    subst ht
    have hol:out.length=t:=by rw [hW,List.length_map,hlen]
    unfold fO
    dsimp only
    rw [tQ]
    by_cases hc:t<K
    · have hm:at' (aB (-1) e1) t∈aB (-1) e1:=at_mem (by omega)
      obtain⟨i,hi,e⟩:=nb.fst _ ((g.base _ _).2 (.inr hm))
      obtain⟨w,hw,way,rfl,L',hL1,hL2,hL3⟩:=nD (body:=bL ⟨ps,⟨e0,e1⟩⟩) (fun q=>WI P M e1 q∧CI P ps e1 i q) (fun q=>M+5 - q.2.length) (fun r=> ∃w,r= .brk w∧ ∃L',w=(i::L').map (at' ps)∧(∀j∈i::L',j<P)∧Ko e1 (2*(i:Int)+1) L')
        (fun q hq=>by obtain⟨f,e,hf⟩:=MV hM g nb fl hps hP q hq.1 hq.2;exact⟨f,e,by cases f<;>exact hf⟩) FUEL (at' (aB (-1) e1) t,([]:List Part))
        ⟨.inr ⟨i,hi,e,[at' (aB (-1) e1) t],by simp,fun w hw=>by rw [List.mem_singleton]at hw;subst hw;exact⟨i,hi,e⟩,by simp,by simp,fun w hw=>by rw [List.mem_singleton]at hw;subst hw;exact⟨-1,hm, .inl rfl⟩⟩,
         .inr ⟨i,[],hi,e,rfl,fun _ h=>(by cases h),fun R hR=> ⟨R,rfl,hR⟩⟩⟩ (fuel_lt (by simp;omega))
      rw [xV (by omega),cond_true,aj ⟨by omega,by omega⟩,Int.toNat_natCast,hw,Option.bind_some]
      dsimp only
      rw [aj ⟨by rw [List.length_singleton];omega,by rw [List.length_singleton];omega⟩,wr (by omega)]
      refine⟨_,rfl,⟨t+1,rfl,hc,Ls++[i::L'], ?_,by simp;omega,fun u hu=> ?_⟩,by dsimp only;omega⟩
      · dsimp only;rw [List.map_append,hW,hL1];rfl
      · by_cases hut:u<t
        · rw [BS (by omega)];exact hall u hut
        · have:u=Ls.length:=by omega
          subst this
          rw [SC]
          exact⟨i,L',rfl,by rw [hlen];exact e,⟨by rw [←e];exact hm,hL3⟩,hL2⟩
    · rw [nJ (by omega),cond_false]
      have:t=K:=by omega
      subst this
      exact⟨_,rfl,out,rfl,Ls,hW,hlen,hall⟩) FUEL ([],0) ⟨0,rfl,Nat.zero_le _,[],rfl,rfl,fun _ h=>(by omega)⟩ (fuel_lt (by dsimp only;omega))
  refine⟨W,Ls, ?_,hW⟩
  unfold dI
  rw [hr];rfl
omit hM in
theorem NZ {ps:List Part} (W:List (List Part)) (Ls:List (List Nat)) (hW:BQ P K ps e1 W Ls) (hin: ∀i j,i<P→j<P→at' ps i=at' ps j→i=j):W.flatten.Nodup∧W.flatten.length≤P+2:=by
  obtain⟨hW,hl,hall⟩:=hW
  have hI:=FL.ind g nb fl
  have hs:=GZ g nb fl
  have hn:=g.n1 (-1)
  have hfl:Ls.flatten.Nodup:=by
    unfold List.Nodup
    rw [List.pairwise_flatten]
    refine⟨fun L hL=> ?_, ?_⟩
    · obtain⟨t,ht,e⟩:=dV hL
      obtain⟨x,L',_,_,hc,_⟩:=hall t (by omega)
      rw [←e];exact Ip hI hc
    · rw [List.pairwise_iff_getElem]
      intro a b ha hb hab
      rw [←bX ha,←bX hb]
      obtain⟨x,L',e1',e2,hc,_⟩:=hall a (by omega)
      obtain⟨y,L'',f1,f2,hd,_⟩:=hall b (by omega)
      refine Oq hI hc hd fun e=> ?_
      rw [e1',f1,zx,zx]at e
      unfold List.Nodup at hn
      rw [List.pairwise_iff_getElem]at hn
      refine hn a b (by omega) (by omega) hab ?_
      rw [←bX (by omega),←bX (by omega),e2,f2,e]
  have hlt: ∀i∈Ls.flatten,i<P:=fun i hi=>by
    obtain⟨L,hL,hi⟩:=List.mem_flatten.1 hi
    obtain⟨t,ht,e⟩:=dV hL
    obtain⟨x,L',_,_,_,h⟩:=hall t (by omega)
    rw [←e]at hi
    exact h i hi
  have e:W.flatten=Ls.flatten.map (at' ps):=by rw [hW,List.map_flatten]
  rw [e]
  refine⟨?_, ?_⟩
  · unfold List.Nodup
    rw [List.pairwise_map]
    refine List.Pairwise.imp_of_mem ?_ hfl
    intro a b ha hb hne e
    exact hne (hin a b (hlt a ha) (hlt b hb) e)
  · rw [List.length_map]
    have hm:(Ls.flatten.map fun i:Nat=>(i:Int)).Nodup:=by
      unfold List.Nodup
      rw [List.pairwise_map]
      exact List.Pairwise.imp (fun h e=>h (Int.ofNat_inj.1 e)) hfl
    have:=Ay (P+2) _ hm fun x hx=>by
      obtain⟨i,hi,rfl⟩:=List.mem_map.1 hx
      have:=hlt i hi
      omega
    rwa [List.length_map]at this
end
inductive PW (p:ah) (s:State) (k:Nat):Nat→List Part→Prop where
 |fin {b t:Nat}:t<2→fd p k t=(b:Int)→PW p s k b []
 |step {b m w:Nat} {l:List Part}:m<p.links.length→iA p s m=true→((at' p.links m).a=(b:Int)∧(at' p.links m).b=(w:Int)∨(at' p.links m).b=(b:Int)∧(at' p.links m).a=(w:Int))→
   PW p s k w l→PW p s k b (⟨3,(m:Int)⟩::⟨1,(w:Int)⟩::l)
def Way (p:ah) (s:State) (k:Nat) (l:List Part):Prop:=
 ∃(j b:Nat) (l':List Part),l=⟨2,(j:Int)⟩::⟨1,(b:Int)⟩::l'∧j<p.sources.length∧eP p s j=true∧(at' p.sources j).bus=(b:Int)∧PW p s k b l'∧l.Nodup
section
variable {p:ah} {s:State} (hp:VP p) {k:Nat} (hk:k<p.racks.length) {e0 e1:List (Int × List Int)} (g:GI (2*(partsOf p).length+2) (fun u v=>(u,v)∈aD p s k) e0 e1)
include hp hk g
theorem Ua: ∀(L:List Nat) (b:Nat),b<p.buses.toNat→Ko e1 (2*(b:Int)+1) L→b ∉ L→L.Nodup→PW p s k b (L.map (at' (partsOf p)))
 |[],b,hb,hc,_,_=>by
  have h:=(g.base _ _).2 (.inr hc)
  rcases jQ hp hk h with⟨i,hi,h1,h2⟩|⟨j,hj,hf,⟨h1,h2⟩|⟨h1,h2⟩⟩|⟨i,hi,hcb,w,hw,h⟩|⟨t,ht,h0,hbd,h1,h2⟩
  ·omega
  ·omega
  ·have:=(hp.src j hj).bus;omega
  ·have l2:=hp.lnk i hi;have a2:=l2.a;have b2:=l2.b
   have hx:=nC hp i
   rcases hw with rfl|rfl<;>rcases h with h|h<;>omega
  ·exact .fin ht (by omega)
 |[i],b,hb,hc,_,_=>by
  have hbb:=hp.b
  have h:=(g.base _ _).2 (.inr hc.1)
  have h':=(g.base _ _).2 (.inr hc.2)
  rcases jQ hp hk h with⟨i,hi,h1,h2⟩|⟨j,hj,hf,⟨h1,h2⟩|⟨h1,h2⟩⟩|⟨m,hm,hcb,w,hw,h⟩|⟨t,ht,h0,hbd,h1,h2⟩
  ·omega
  ·omega
  ·omega
  ·have l2:=hp.lnk m hm;have a2:=l2.a;have b2:=l2.b
   have hx:=nC hp m
   have hi:i=p.buses.toNat+p.sources.length+m:=by rcases hw with rfl|rfl<;>rcases h with h|h<;>omega
   rcases jQ hp hk h' with⟨i,hi,h1,h2⟩|⟨j,hj,hf,⟨h1,h2⟩|⟨h1,h2⟩⟩|⟨n,hn,hcb,w',hw',h'⟩|⟨t,ht,h0,hbd,h1,h2⟩
   ·omega
   ·omega
   ·have:=(hp.src j hj).bus;omega
   ·have l2:=hp.lnk n hn;have a2:=l2.a;have b2:=l2.b
    have hx:=nC hp n
    rcases hw' with rfl|rfl<;>rcases h' with h'|h'<;>omega
   ·have:=qX hp hk ht;omega
  ·omega
 |i::j::L,b,hb,hc,hbn,hnd=>by
  have hbb:=hp.b
  have h:=(g.base _ _).2 (.inr hc.1)
  have h':=(g.base _ _).2 (.inr hc.2.1)
  have hbj:b≠j:=fun e=>hbn (by rw [e];exact List.mem_cons_of_mem _ List.mem_cons_self)
  rw [List.nodup_cons,List.nodup_cons]at hnd
  rcases jQ hp hk h with⟨i,hi,h1,h2⟩|⟨j,hj,hf,⟨h1,h2⟩|⟨h1,h2⟩⟩|⟨m,hm,hcb,w,hw,h⟩|⟨t,ht,h0,hbd,h1,h2⟩
  ·omega
  ·omega
  ·omega
  ·have l2:=hp.lnk m hm;have a2:=l2.a;have b2:=l2.b
   have hx:=nC hp m
   have hi:i=p.buses.toNat+p.sources.length+m∧w=(b:Int):=by rcases hw with rfl|rfl<;>rcases h with h|h<;>omega
   obtain⟨hi,hwb⟩:=hi
   rcases jQ hp hk h' with⟨i,hi,h1,h2⟩|⟨q,hq,hf,⟨h1,h2⟩|⟨h1,h2⟩⟩|⟨n,hn,hcb',w',hw',h'⟩|⟨t,ht,h0,hbd,h1,h2⟩
   ·omega
   ·omega
   ·have:=(hp.src q hq).bus;omega
   ·have l3:=hp.lnk n hn;have a3:=l3.a;have b3:=l3.b
    have hy:=nC hp n
    have hn':n=m∧w'=(j:Int):=by rcases hw' with rfl|rfl<;>rcases h' with h'|h'<;>omega
    obtain⟨rfl,hwj⟩:=hn'
    have hjb:j<p.buses.toNat:=by rcases hw' with rfl|rfl<;>omega
    have ih:=Ua L j hjb hc.2.2 hnd.2.1 hnd.2.2
    show PW p s k b (at' (partsOf p) i::at' (partsOf p) j::L.map (at' (partsOf p)))
    rw [hi,nA hm,lq hjb]
    refine .step hm hcb ?_ ih
    rcases hw with rfl|rfl<;>rcases hw' with rfl|rfl
    ·omega
    ·exact .inl ⟨hwb,hwj⟩
    ·exact .inr ⟨hwb,hwj⟩
    ·omega
   ·omega
  ·omega
theorem Uq (nb:NB (partsOf p).length (fun u v=>(u,v)∈aD p s k)) {K:Nat} (fl:FL K e1) {L:List Nat} (hc:Ko e1 (-1) L) (hlt: ∀i∈L,i<(partsOf p).length):Way p s k (L.map (at' (partsOf p))):=by
 have hbb:=hp.b
 have hP:=bg (p:=p)
 have hnd:=Ip (FL.ind g nb fl) hc
 have hmn:(L.map (at' (partsOf p))).Nodup:=by
  unfold List.Nodup
  rw [List.pairwise_map]
  exact List.Pairwise.imp_of_mem (fun ha hb hne e=>hne (wN (hlt _ ha) (hlt _ hb) e)) hnd
 match L,hc,hnd,hlt,hmn with
 |[],hc,_,_,_=>
  have h:=(g.base _ _).2 (.inr hc)
  rcases jQ hp hk h with⟨i,hi,h1,h2⟩|⟨j,hj,hf,⟨h1,h2⟩|⟨h1,h2⟩⟩|⟨m,hm,hcb,w,hw,h⟩|⟨t,ht,h0,hbd,h1,h2⟩
  ·omega
  ·omega
  ·omega
  ·have l2:=hp.lnk m hm;have a2:=l2.a;have b2:=l2.b
   have hx:=nC hp m
   rcases hw with rfl|rfl<;>rcases h with h|h<;>omega
  ·have:=qX hp hk ht;omega
 |x::L',hc,hnd,hlt,hmn=>
  have h:=(g.base _ _).2 (.inr hc.1)
  have hx: ∃j,j<p.sources.length∧eP p s j=true∧x=p.buses.toNat+j:=by
   rcases jQ hp hk h with⟨i,hi,h1,h2⟩|⟨j,hj,hf,⟨h1,h2⟩|⟨h1,h2⟩⟩|⟨m,hm,hcb,w,hw,h⟩|⟨t,ht,h0,hbd,h1,h2⟩
   ·omega
   ·exact⟨j,hj,hf,by omega⟩
   ·omega
   ·have l2:=hp.lnk m hm;have a2:=l2.a;have b2:=l2.b
    have hx:=nC hp m
    rcases hw with rfl|rfl<;>rcases h with h|h<;>omega
   ·have:=qX hp hk ht;omega
  obtain⟨j,hj,hf,rfl⟩:=hx
  match L',hc,hnd,hlt,hmn with
  |[],hc,_,_,_=>
   have h:=(g.base _ _).2 (.inr hc.2)
   rcases jQ hp hk h with⟨i,hi,h1,h2⟩|⟨q,hq,hf,⟨h1,h2⟩|⟨h1,h2⟩⟩|⟨m,hm,hcb,w,hw,h⟩|⟨t,ht,h0,hbd,h1,h2⟩
   ·omega
   ·omega
   ·have:=(hp.src q hq).bus;omega
   ·have l2:=hp.lnk m hm;have a2:=l2.a;have b2:=l2.b
    have hx:=nC hp m
    rcases hw with rfl|rfl<;>rcases h with h|h<;>omega
   ·have:=qX hp hk ht;omega
  |b::L,hc,hnd,hlt,hmn=>
   have h:=(g.base _ _).2 (.inr hc.2.1)
   have hb:(at' p.sources j).bus=(b:Int):=by
    rcases jQ hp hk h with⟨i,hi,h1,h2⟩|⟨q,hq,hf,⟨h1,h2⟩|⟨h1,h2⟩⟩|⟨m,hm,hcb,w,hw,h⟩|⟨t,ht,h0,hbd,h1,h2⟩
    ·omega
    ·omega
    ·have:q=j:=by omega
     subst this;omega
    ·have l2:=hp.lnk m hm;have a2:=l2.a;have b2:=l2.b
     have hx:=nC hp m
     rcases hw with rfl|rfl<;>rcases h with h|h<;>omega
    ·have:=qX hp hk ht;omega
   have hbr:=(hp.src j hj).bus
   rw [List.nodup_cons,List.nodup_cons]at hnd
   have hpw:=Ua hp hk g L b (by omega) hc.2.2 hnd.2.1 hnd.2.2
   refine⟨j,b,L.map (at' (partsOf p)), ?_,hj,hf,hb,hpw,hmn⟩
   show at' (partsOf p) _::at' (partsOf p) b::_=_
   rw [nI hj,lq (by omega)]
end
section
variable {p:ah} {s:State} (hp:VP p) (hs:VS p s) {k:Nat} (hk:k<p.racks.length)
include hp hs
theorem vX {x:Part} (hx:jk p x) {b:Nat} (hne:(⟨1,(b:Int)⟩:Part)≠x) (h:at' s.badBus b=false):at' (aS s x true).badBus b=false:=by
 obtain⟨c,j⟩:=x
 have h0:0≤j:=hx.1
 unfold aS
 dsimp only
 split
 ·rename_i e
  dsimp only
  rw [aX (fun q=>hne (by rw [e];congr 1;omega))];exact h
 ·split<;>exact h
theorem NR {x:Part} (hx:jk p x) {j b:Nat} (hj:j<p.sources.length) (hb:(at' p.sources j).bus=(b:Int)) (h1:(⟨2,(j:Int)⟩:Part)≠x) (h2:(⟨1,(b:Int)⟩:Part)≠x) (h:eP p s j=true):eP p (aS s x true) j=true:=by
 unfold eP at h ⊢
 simp only [Bool.and_eq_true,Bool.not_eq_true']at h ⊢
 obtain⟨⟨q1,q2⟩,q3⟩:=h
 rw [hb,Int.toNat_natCast]at q3 ⊢
 refine⟨⟨?_, ?_⟩,vX hp hs hx h2 q3⟩
 ·unfold aS;split
  ·exact q1
  ·split<;>exact q1
 ·obtain⟨c,i⟩:=x
  have h0:0≤i:=hx.1
  unfold aS
  dsimp only
  split
  ·exact q2
  ·split
   ·rename_i e
    dsimp only
    rw [aX (fun q=>h1 (by rw [e];congr 1;omega))];exact q2
   ·exact q2
theorem NW {x:Part} (hx:jk p x) {m b w:Nat} (hm:m<p.links.length) (hl:(at' p.links m).a=(b:Int)∧(at' p.links m).b=(w:Int)∨(at' p.links m).b=(b:Int)∧(at' p.links m).a=(w:Int)) (h1:(⟨3,(m:Int)⟩:Part)≠x) (h2:(⟨1,(b:Int)⟩:Part)≠x) (h3:(⟨1,(w:Int)⟩:Part)≠x)
  (h:iA p s m=true):iA p (aS s x true) m=true:=by
 unfold iA at h ⊢
 simp only [Bool.and_eq_true,Bool.not_eq_true']at h ⊢
 obtain⟨⟨⟨q1,q2⟩,q3⟩,q4⟩:=h
 refine⟨⟨⟨?_, ?_⟩, ?_⟩, ?_⟩
 ·unfold aS;split
  ·exact q1
  ·split<;>exact q1
 ·obtain⟨c,i⟩:=x
  have h0:0≤i:=hx.1
  have hc:=hx.2
  dsimp only at hc
  unfold aS
  dsimp only
  split
  ·exact q2
  ·split
   ·exact q2
   ·dsimp only
    rw [aX (fun q=>h1 (by rw [show c=3 by omega];congr 1;omega))];exact q2
 ·rcases hl with⟨e,f⟩|⟨e,f⟩
  ·rw [e,Int.toNat_natCast]at q3 ⊢;exact vX hp hs hx h2 q3
  ·rw [f,Int.toNat_natCast]at q3 ⊢;exact vX hp hs hx h3 q3
 ·rcases hl with⟨e,f⟩|⟨e,f⟩
  ·rw [f,Int.toNat_natCast]at q4 ⊢;exact vX hp hs hx h3 q4
  ·rw [e,Int.toNat_natCast]at q4 ⊢;exact vX hp hs hx h2 q4
omit hs in
theorem Pn {m w:Nat} (hw:(at' p.links m).a=(w:Int)∨(at' p.links m).b=(w:Int)) (h:iA p s m=true):at' s.badBus w=false:=by
 unfold iA at h
 simp only [Bool.and_eq_true,Bool.not_eq_true']at h
 obtain⟨⟨⟨q1,q2⟩,q3⟩,q4⟩:=h
 rcases hw with e|e
 ·rw [e,Int.toNat_natCast]at q3;exact q3
 ·rw [e,Int.toNat_natCast]at q4;exact q4
theorem Rq {x:Part} (hx:jk p x) {b:Nat} {l:List Part} (h:PW p s k b l):(⟨1,(b:Int)⟩:Part)≠x→x ∉ l→PW p (aS s x true) k b l:=by
 induction h with
 |fin h1 h2=>exact fun _ _=> .fin h1 h2
 |step h1 h2 h3 h4 ih=>
  intro hb hn
  rename_i b m w l
  have n1:(⟨3,(m:Int)⟩:Part)≠x:=fun e=>hn (by rw [←e];exact List.mem_cons_self)
  have n2:(⟨1,(w:Int)⟩:Part)≠x:=fun e=>hn (by rw [←e];exact List.mem_cons_of_mem _ List.mem_cons_self)
  exact .step h1 (NW hp hs hx h1 h3 n1 hb n2 h2) h3 (ih n2 fun q=>hn (List.mem_cons_of_mem _ (List.mem_cons_of_mem _ q)))
omit hs in
theorem Wp {b:Nat} {l:List Part} (h:PW p s k b l):at' s.badBus b=false→ ∀{j:Nat} {lw:List Int},j<p.sources.length→eP p s j=true→Wk p s (at' p.sources j).bus.toNat lw b→Fd p s k:=by
 induction h with
 |fin h1 h2=>
  intro hb j lw hj hf wk
  rename_i b t
  exact⟨t,h1,by omega,by rw [h2,Int.toNat_natCast];exact⟨hb,j,hj,hf,lw,wk⟩⟩
 |step h1 h2 h3 h4 ih=>
  intro hb j lw hj hf wk
  rename_i b m w l
  refine ih (Pn hp (h3.elim (fun h=> .inr h.2) (fun h=> .inl h.2)) h2) hj hf (.snoc wk h1 h2 ?_)
  rcases h3 with⟨e,f⟩|⟨e,f⟩
  ·exact .inl ⟨by rw [e,Int.toNat_natCast],by rw [f,Int.toNat_natCast]⟩
  ·exact .inr ⟨by rw [e,Int.toNat_natCast],by rw [f,Int.toNat_natCast]⟩
theorem P6 {x:Part} (hx:jk p x) {l:List Part} (h:Way p s k l) (hn:x ∉ l):Fd p (aS s x true) k:=by
 obtain⟨j,b,l',rfl,hj,hf,hb,hpw,_⟩:=h
 have n1:(⟨2,(j:Int)⟩:Part)≠x:=fun e=>hn (by rw [←e];exact List.mem_cons_self)
 have n2:(⟨1,(b:Int)⟩:Part)≠x:=fun e=>hn (by rw [←e];exact List.mem_cons_of_mem _ List.mem_cons_self)
 have hf':=NR hp hs hx hj hb n1 n2 hf
 have hbb:at' (aS s x true).badBus b=false:=by
  unfold eP at hf'
  simp only [Bool.and_eq_true,Bool.not_eq_true']at hf'
  have:=hf'.2
  rw [hb,Int.toNat_natCast]at this;exact this
 refine Wp hp (Rq hp hs hx hpw n2 fun q=>hn (List.mem_cons_of_mem _ (List.mem_cons_of_mem _ q))) hbb hj hf' (lw:=[]) ?_
 rw [hb,Int.toNat_natCast];exact .nil
include hk
theorem RF {x:Part} (hx:x∈pz p s k) {l:List Part} (h:Way p s k l):x∈l:=by
 obtain⟨h1,h2⟩:=List.mem_filter.1 hx
 have hi:=A9 hp h1
 refine Classical.byContradiction fun hn=> ?_
 have:=P6 hp hs hi h hn
 rw [(uN hp (VS.aS hs x true) hk).2 this]at h2
 cases h2
end
theorem yY (φ:Int→Int) (a:Int) {b:Int}: ∀{l:List Int},b∈l→mZ φ a (l.erase b)+(φ a - φ b)=mZ φ a l
 |[],h=>by cases h
 |c::l,h=>by
  rw [List.erase_cons]
  by_cases e:c=b
  ·subst e;simp [mZ];omega
  ·have hm:b∈l:=(List.mem_cons.1 h).elim (fun q=>absurd q.symm e) id
   have:=yY φ a hm
   simp only [beq_iff_eq,e,if_false,mZ];omega
theorem Mc {φ:Int→Int} {a:Int}: ∀{l:List Int},(∀b∈l,φ b≤φ a)→0≤mZ φ a l
 |[],_=>Int.le_refl 0
 |b::l,h=>by
  have:=h b List.mem_cons_self
  have:=Mc fun x hx=>h x (List.mem_cons_of_mem b hx)
  rw [mZ];omega
theorem L8 {φ:Int→Int}: ∀{m:List (Int × List Int)},(∀x∈m,0≤mZ φ x.1 x.2)→0≤zb φ m
 |[],_=>Int.le_refl 0
 |(a,l)::m,h=>by
  have h1:=h _ List.mem_cons_self
  have h2:=L8 fun x hx=>h x (List.mem_cons_of_mem (a,l) hx)
  dsimp only at h1
  rw [zb];omega
theorem Nj {φ:Int→Int} {e1:List (Int × List Int)} (hk:(e1.map (·.1)).Nodup) (hn: ∀u,(aB u e1).Nodup) (hm: ∀u v,v∈aB u e1→φ v≤φ u) (hs:zb φ e1≤1) {a b c d:Int} (h1:b∈aB a e1) (h2:d∈aB c e1) (l1:φ a=φ b+1) (l2:φ c=φ d+1):a=c∧b=d:=by
 refine Classical.byContradiction fun hne=> ?_
 have hne:a≠c∨b≠d:=by
  by_cases e:a=c
  ·exact .inr fun q=>hne ⟨e,q⟩
  ·exact .inl e
 have k1:=tZ a ((aB a e1).erase b) e1 hk
 have s1:=vT φ a ((aB a e1).erase b) e1
 have r1:=yY φ a h1
 have h2':d∈aB c (dW a ((aB a e1).erase b) e1):=by
  rw [dO]
  split
  ·rename_i e
   subst e
   rw [(hn _).mem_erase_iff]
   exact⟨fun q=>hne.elim (fun z=>z rfl) fun z=>z q.symm,h2⟩
  ·exact h2
 have k2:=tZ c ((aB c (dW a ((aB a e1).erase b) e1)).erase d) _ k1.1
 have s2:=vT φ c ((aB c (dW a ((aB a e1).erase b) e1)).erase d) (dW a ((aB a e1).erase b) e1)
 have r2:=yY φ c h2'
 have sub: ∀u v,v∈aB u (dW c ((aB c (dW a ((aB a e1).erase b) e1)).erase d) (dW a ((aB a e1).erase b) e1))→v∈aB u e1:=fun u v h=>by
  have g1: ∀u v,v∈aB u (dW a ((aB a e1).erase b) e1)→v∈aB u e1:=fun u v h=>by
   rw [dO]at h
   split at h
   ·rename_i e;subst e;exact List.mem_of_mem_erase h
   ·exact h
  rw [dO]at h
  split at h
  ·rename_i e;subst e;exact g1 _ _ (List.mem_of_mem_erase h)
  ·exact g1 _ _ h
 have:=L8 (φ:=φ) (m:=dW c ((aB c (dW a ((aB a e1).erase b) e1)).erase d) (dW a ((aB a e1).erase b) e1)) fun x hx=>by
  refine Mc fun v hv=> ?_
  rw [←oZ k2.1 hx]at hv
  exact hm _ _ (sub _ _ hv)
 omega
section
variable {p:ah} {s:State} (hp:VP p) (hs:VS p s)
include hp hs
omit hs in
theorem GU {l:List Bool} {i q:Nat} (hi:i<l.length) (h:at' (l.set i true) q=false):q≠i:=fun e=>by
 subst e;rw [bV hi]at h;cases h
theorem Gb {ix:Nat} (hix:ix<(partsOf p).length) {b:Nat} (hb:b<p.buses.toNat) (h:at' (aS s (at' (partsOf p) ix) true).badBus b=false):b≠ix∧at' s.badBus b=false:=by
 have h7:=hs.badBus
 have hP:=bg (p:=p)
 by_cases h1:ix<p.buses.toNat
 ·rw [lq h1]at h
  unfold aS at h
  rw [if_pos rfl]at h
  dsimp only at h
  rw [Int.toNat_natCast]at h
  exact⟨GU hp (by omega) h,Uu _ _ _ h⟩
 ·refine⟨by omega, ?_⟩
  by_cases h2:ix<p.buses.toNat+p.sources.length
  ·have e:=nI (p:=p) (k:=ix - p.buses.toNat) (by omega)
   rw [show p.buses.toNat+(ix - p.buses.toNat)=ix by omega]at e
   rw [e]at h
   exact h
  ·have e:=nA (p:=p) (i:=ix - (p.buses.toNat+p.sources.length)) (by omega)
   rw [show p.buses.toNat+p.sources.length+(ix - (p.buses.toNat+p.sources.length))=ix by omega]at e
   rw [e]at h
   exact h
theorem R4 {ix:Nat} (hix:ix<(partsOf p).length) {j:Nat} (hj:j<p.sources.length) (h:eP p (aS s (at' (partsOf p) ix) true) j=true):eP p s j=true∧p.buses.toNat+j≠ix∧(at' p.sources j).bus.toNat≠ix:=by
 have hbu:=(hp.src j hj).bus
 have h5:=hs.badSource
 have hP:=bg (p:=p)
 unfold eP at h ⊢
 simp only [Bool.and_eq_true,Bool.not_eq_true']at h ⊢
 obtain⟨⟨q1,q2⟩,q3⟩:=h
 obtain⟨r1,r2⟩:=Gb hp hs hix (by omega) q3
 have q1':at' s.on_ j=true:=by
  revert q1;unfold aS;split
  ·exact id
  ·split<;>exact id
 by_cases h1:ix<p.buses.toNat
 ·rw [lq h1]at q2
  exact⟨⟨⟨q1',q2⟩,r2⟩,by omega,r1⟩
 ·by_cases h2:ix<p.buses.toNat+p.sources.length
  ·have e:=nI (p:=p) (k:=ix - p.buses.toNat) (by omega)
   rw [show p.buses.toNat+(ix - p.buses.toNat)=ix by omega]at e
   rw [e]at q2
   unfold aS at q2
   rw [if_neg (show ¬ (2:Int)=1 by decide),if_pos rfl]at q2
   dsimp only at q2
   rw [Int.toNat_natCast]at q2
   have:=GU hp (by omega) q2
   exact⟨⟨⟨q1',Uu _ _ _ q2⟩,r2⟩,by omega,r1⟩
  ·have e:=nA (p:=p) (i:=ix - (p.buses.toNat+p.sources.length)) (by omega)
   rw [show p.buses.toNat+p.sources.length+(ix - (p.buses.toNat+p.sources.length))=ix by omega]at e
   rw [e]at q2
   exact⟨⟨⟨q1',q2⟩,r2⟩,by omega,r1⟩
theorem RH {ix:Nat} (hix:ix<(partsOf p).length) {m:Nat} (hm:m<p.links.length) (h:iA p (aS s (at' (partsOf p) ix) true) m=true):iA p s m=true∧p.buses.toNat+p.sources.length+m≠ix∧(at' p.links m).a.toNat≠ix∧(at' p.links m).b.toNat≠ix:=by
 have l2:=hp.lnk m hm;have a2:=l2.a;have b2:=l2.b
 have h3:=hs.badLink
 have hP:=bg (p:=p)
 unfold iA at h ⊢
 simp only [Bool.and_eq_true,Bool.not_eq_true']at h ⊢
 obtain⟨⟨⟨q1,q2⟩,q3⟩,q4⟩:=h
 obtain⟨r1,r2⟩:=Gb hp hs hix (by omega) q3
 obtain⟨t1,t2⟩:=Gb hp hs hix (by omega) q4
 have q1':at' s.closed m=true:=by
  revert q1;unfold aS;split
  ·exact id
  ·split<;>exact id
 by_cases h1:ix<p.buses.toNat
 ·rw [lq h1]at q2
  exact⟨⟨⟨⟨q1',q2⟩,r2⟩,t2⟩,by omega,r1,t1⟩
 ·by_cases h2:ix<p.buses.toNat+p.sources.length
  ·have e:=nI (p:=p) (k:=ix - p.buses.toNat) (by omega)
   rw [show p.buses.toNat+(ix - p.buses.toNat)=ix by omega]at e
   rw [e]at q2
   exact⟨⟨⟨⟨q1',q2⟩,r2⟩,t2⟩,by omega,r1,t1⟩
  ·have e:=nA (p:=p) (i:=ix - (p.buses.toNat+p.sources.length)) (by omega)
   rw [show p.buses.toNat+p.sources.length+(ix - (p.buses.toNat+p.sources.length))=ix by omega]at e
   rw [e]at q2
   unfold aS at q2
   rw [if_neg (show ¬ (3:Int)=1 by decide),if_neg (show ¬ (3:Int)=2 by decide)]at q2
   dsimp only at q2
   rw [Int.toNat_natCast]at q2
   have:=GU hp (by omega) q2
   exact⟨⟨⟨⟨q1',Uu _ _ _ q2⟩,r2⟩,t2⟩,by omega,r1,t1⟩
end
theorem CU {l:List Bool} {i:Nat} (h:at' l i=true):l.set i true=l:=by
 by_cases hi:i<l.length
 ·have:l[i]=true:=by rw [←bX hi];exact h
  rw [←this,List.set_getElem_self]
 ·exact List.set_eq_of_length_le (by omega)
theorem Jt {s:State} {x:Part} (h:uR s x=true):aS s x true=s:=by
 unfold uR at h
 unfold aS
 split
 ·rename_i e;rw [if_pos e]at h;rw [CU h]
 ·rename_i e;rw [if_neg e]at h
  split
  ·rename_i e;rw [if_pos e]at h;rw [CU h]
  ·rename_i e;rw [if_neg e]at h;rw [CU h]
section
variable {p:ah} {s:State} (hp:VP p) (hs:VS p s) {k:Nat} (hk:k<p.racks.length)
include hp hs hk
theorem Tj {e0 e1:List (Int × List Int)} (g:GI (2*(partsOf p).length+2) (fun u v=>(u,v)∈aD p s k) e0 e1) (fl:FL 1 e1) (hc:Yn e0 e1) (hfed:Fd p s k): ∃x,x∈pz p s k:=by
 have hb:=hp.b
 have hP:=bg (p:=p)
 obtain⟨V,v1,v2,v3⟩:=hc
 have out: ∀u w,(u,w)∈aD p s k→V u=true→V w=false→w∈aB u e1:=fun u w hm hu hw=>by
  rcases(g.base u w).1 hm with h|h
  ·rw [v3 u w hu (.inl h)]at hw;cases hw
  ·exact h
 have inn: ∀u w,w∈aB u e1→V w=true→V u=true:=fun u w hm hw=>by
  by_cases h1:u= -1
  ·rw [h1];exact v1
  ·exact v3 w u hw (.inr ⟨hm,h1⟩)
 have hsum:zb (fun u=>if V u=true then 1 else 0) e1=1:=by
  rw [fl];rw [if_pos v1,v2,if_neg (by decide)];decide
 have mono: ∀u v,v∈aB u e1→(if V v=true then(1:Int)else 0)≤if V u=true then 1 else 0:=fun u v h=>by
  by_cases hv:V v=true
  ·rw [if_pos hv,if_pos (inn u v h hv)];exact Int.le_refl _
  ·rw [if_neg hv];split<;>decide
 have uniq: ∀a b c d,(a,b)∈aD p s k→V a=true→V b=false→(c,d)∈aD p s k→V c=true→V d=false→a=c∧b=d:=fun a b c d h1 h2 h3 h4 h5 h6=>
  Nj (φ:=fun u=>if V u=true then 1 else 0) g.keys g.n1 mono (by rw [hsum];decide) (out a b h1 h2 h3) (out c d h4 h5 h6) (by rw [if_pos h2,h3,if_neg (by decide)];decide) (by rw [if_pos h5,h6,if_neg (by decide)];decide)
 have mp: ∀i,i<(partsOf p).length→((2*(i:Int),2*(i:Int)+1)∈aD p s k):=fun i hi=>by
  unfold aD
  rw [List.mem_append,List.mem_append,List.mem_append]
  exact .inl (.inl (.inl (bS.2 ⟨i,hi,by simp [zP]⟩)))
 have ms: ∀j x,j<p.sources.length→x∈pU p s j→x∈aD p s k:=fun j x hj hx=>by
  unfold aD
  rw [List.mem_append,List.mem_append,List.mem_append]
  exact .inl (.inl (.inr (bS.2 ⟨j,hj,hx⟩)))
 have ml: ∀j x,j<p.links.length→x∈nL p s j→x∈aD p s k:=fun j x hj hx=>by
  unfold aD
  rw [List.mem_append,List.mem_append,List.mem_append]
  exact .inl (.inr (bS.2 ⟨j,hj,hx⟩))
 have dark: ∀ix,ix<(partsOf p).length→(∀u w,(u,w)∈aD p s k→V u=true→u≠2*(ix:Int)→u≠2*(ix:Int)+1→w≠2*(ix:Int)→V w=true)→ ∃x,x∈pz p s k:=fun ix hix st=>by
  have hi:jk p (at' (partsOf p) ix):=qP hp (at_mem hix)
  have hun: ¬ Fd p (aS s (at' (partsOf p) ix) true) k:=by
   rintro ⟨t,ht,h0,hbd,j,hj,hf,l,wk⟩
   have hbu:=(hp.src j hj).bus
   obtain⟨f1,f2,f3⟩:=R4 hp hs hix hj hf
   have hS:pU p s j=[(-1,2*((p.buses.toNat+j:Nat):Int)),(2*((p.buses.toNat+j:Nat):Int)+1,2*(at' p.sources j).bus)]:=by unfold pU;rw [if_pos f1]
   have a1:=st _ _ (ms j (-1,2*((p.buses.toNat+j:Nat):Int)) hj (by rw [hS];exact List.mem_cons_self)) v1 (by omega) (by omega) (by omega)
   have a2:=st _ _ (mp (p.buses.toNat+j) (by omega)) a1 (by omega) (by omega) (by omega)
   have a3:=st _ _ (ms j (2*((p.buses.toNat+j:Nat):Int)+1,2*(at' p.sources j).bus) hj (by rw [hS];exact List.mem_cons_of_mem _ List.mem_cons_self)) a2 (by omega) (by omega) (by omega)
   have walk: ∀l (b:Nat),Wk p (aS s (at' (partsOf p) ix) true) (at' p.sources j).bus.toNat l b→b<p.buses.toNat∧b≠ix∧V (2*(b:Int)+1)=true:=fun l b wk=>by
    induction wk with
    |nil=>
     refine⟨by omega,f3,st _ _ (mp _ (by omega)) ?_ (by omega) (by omega) (by omega)⟩
     rw [show(((at' p.sources j).bus.toNat:Nat):Int)=(at' p.sources j).bus by omega];exact a3
    |snoc wk' hi hc he ih=>
     rename_i l' x y i
     obtain⟨ih1,ih2,ih3⟩:=ih
     have l2:=hp.lnk i hi;have la:=l2.a;have lb:=l2.b
     have hx:=nC hp i
     obtain⟨c1,c2,c3,c4⟩:=RH hp hs hix hi hc
     have hL:nL p s i=[(2*(at' p.links i).a+1,2*lx p i),(2*lx p i+1,2*(at' p.links i).a),(2*(at' p.links i).b+1,2*lx p i),(2*lx p i+1,2*(at' p.links i).b)]:=by unfold nL;rw [if_pos c1]
     have go: ∀q r:Int,q=(x:Int)→r=(y:Int)→r<p.buses→y≠ix→(2*q+1,2*lx p i)∈nL p s i→(2*lx p i+1,2*r)∈nL p s i→y<p.buses.toNat∧y≠ix∧V (2*(y:Int)+1)=true:=fun q r e1 e2 hr hy m1 m2=>by
      subst e1 e2
      have b1:=st _ _ (ml i _ hi m1) ih3 (by omega) (by omega) (by omega)
      have b2:=st _ _ (mp (p.buses.toNat+p.sources.length+i) (by omega)) b1 (by omega) (by omega) (by omega)
      have b3:=st _ _ (ml i _ hi m2) b2 (by omega) (by omega) (by omega)
      exact⟨by omega,hy,st _ _ (mp y (by omega)) b3 (by omega) (by omega) (by omega)⟩
     rcases he with⟨e1,e2⟩|⟨e1,e2⟩
     ·exact go (at' p.links i).a (at' p.links i).b (by omega) (by omega) lb.2 (by omega) (by rw [hL];simp) (by rw [hL];simp)
     ·exact go (at' p.links i).b (at' p.links i).a (by omega) (by omega) la.2 (by omega) (by rw [hL];simp) (by rw [hL];simp)
   have hfr:=qX hp hk ht
   obtain⟨w1,w2,w3⟩:=walk l _ wk
   obtain⟨_,hbd'⟩:=Gb hp hs hix w1 hbd
   have:=st (2*fd p k t+1) (-2) (by
    unfold aD
    rw [List.mem_append]
    exact .inr (bS.2 ⟨t,ht,by unfold rz;rw [if_pos ⟨h0,hbd'⟩];simp⟩)) (by rw [show(((fd p k t).toNat:Nat):Int)=fd p k t by omega]at w3;exact w3) (by omega) (by omega) (by omega)
   rw [v2]at this;cases this
  refine⟨at' (partsOf p) ix,List.mem_filter.2 ⟨List.mem_filter.2 ⟨at_mem hix, ?_⟩, ?_⟩⟩
  ·cases hbp:uR s (at' (partsOf p) ix)with
   |false=>rfl
   |true=>exact absurd (by rw [Jt hbp];exact hfed) hun
  ·cases hf:lG p (aS s (at' (partsOf p) ix) true) k with
   |false=>rfl
   |true=>exact absurd ((uN hp (VS.aS hs _ true) hk).1 hf) hun
 by_cases hex: ∃a b,(a,b)∈aD p s k∧V a=true∧V b=false
 ·obtain⟨a,b,hm,ha,hbv⟩:=hex
  have fin: ∀ix,ix<(partsOf p).length→(a=2*(ix:Int)∨a=2*(ix:Int)+1∨b=2*(ix:Int))→ ∃x,x∈pz p s k:=fun ix hix ht=>dark ix hix fun u w h1 h2 h3 h4 h5=>by
   cases hw:V w with
   |true=>rfl
   |false=>obtain⟨e1,e2⟩:=uniq a b u w hm ha hbv h1 h2 hw;omega
  rcases jQ hp hk hm with⟨i,hi,h1,h2⟩|⟨j,hj,hf,⟨h1,h2⟩|⟨h1,h2⟩⟩|⟨i,hi,hcb,w,hw,h⟩|⟨t,ht,h0,hbd,h1,h2⟩
  ·exact fin i hi (.inl h1)
  ·exact fin (p.buses.toNat+j) (by omega) (.inr (.inr h2))
  ·exact fin (p.buses.toNat+j) (by omega) (.inr (.inl h1))
  ·have l2:=hp.lnk i hi;have la:=l2.a;have lb:=l2.b
   have hx:=nC hp i
   rcases h with⟨h1,h2⟩|⟨h1,h2⟩
   ·exact fin (p.buses.toNat+p.sources.length+i) (by omega) (.inr (.inr (by omega)))
   ·exact fin (p.buses.toNat+p.sources.length+i) (by omega) (.inr (.inl (by omega)))
  ·have:=qX hp hk ht
   exact fin (fd p k t).toNat (by omega) (.inr (.inl (by omega)))
 ·have:zb (fun u=>if V u=true then 1 else 0) e1≤0:=BX fun x hx=>Ae fun v hv=>by
   rw [←oZ g.keys hx]at hv
   by_cases hu:V x.1=true
   ·cases hw:V v with
    |true=>rw [if_pos hu,if_pos rfl];exact Int.le_refl _
    |false=>exact absurd ⟨x.1,v,(g.base _ _).2 (.inr hv),hu,hw⟩ hex
   ·rw [if_neg hu];split<;>decide
  omega
theorem Gl: ∃(K:Nat) (W:List (List Part)),oF p s (k:Int)=some (W,0)∧W.length=K∧K≤2∧(K=0↔lG p s k=false)∧(K=1→pz p s k≠[])∧(K=2→ ∀x,jk p x→lG p (aS s x true) k=true)∧(∀l∈W,Way p s k l)∧W.flatten.Nodup∧W.flatten.length≤1000:=by
 have hP:=bg (p:=p);have hb:=hp.b;have hsl:=hp.sl;have hll:=hp.ll
 have nb:=Ll (s:=s) hp hk
 obtain⟨e0,e1,K,W,h1,h2,h3,hK,h5,h6,h7,h8⟩:=Ie (ps:=partsOf p) rfl (by omega) nb rfl (R6 (s:=s) hp hk)
 obtain⟨W',Ls,hw,hW⟩:=QB rfl h2 nb h3 (ps:=partsOf p) rfl (by omega) (by omega)
 rw [h7]at hw
 cases hw
 refine⟨K,W, ?_,h8,hK,⟨fun h=> ?_,fun h=> ?_⟩,fun h=> ?_,fun h x hx=> ?_,fun l hl=> ?_, ?_⟩
 ·unfold oF
  rw [yK hp hs hk,Option.bind_some,decide_eq_true rfl,Bool.not_true,cond_false,JY hp hs hk,Option.bind_some]
  dsimp only
  rw [h1,Option.bind_some]
  dsimp only
  rw [h7,Option.bind_some]
 ·have hc:=h6 (by omega)
  have he:=h5 h
  subst he
  have:=Md hp hk h2 hc
  cases hf:lG p s k with
  |false=>rfl
  |true=>exact absurd ((uN hp hs hk).1 hf) this
 ·exact G7 hp hk (fun q=>by rw [(uN hp hs hk).2 q]at h;cases h) h2 h3
 ·subst h
  have hfed:Fd p s k:=Classical.byContradiction fun q=>by
   have:=G7 hp hk q h2 h3
   omega
  obtain⟨x,hx⟩:=Tj hp hs hk h2 h3 (h6 (by omega)) hfed
  intro e;rw [e]at hx;cases hx
 ·cases hf:lG p (aS s x true) k with
  |true=>rfl
  |false=>
   obtain⟨ix,hB⟩:=QE hp hs hx
   have:=OP hp hk hB (fun q=>by rw [(uN hp (VS.aS hs x true) hk).2 q]at hf;cases hf) h2 h3
   omega
 ·obtain⟨e,hl1,hall⟩:=hW
  rw [e]at hl
  obtain⟨L,hL,rfl⟩:=List.mem_map.1 hl
  obtain⟨t,ht,rfl⟩:=dV hL
  obtain⟨x,L',_,_,hc,hlt⟩:=hall t (by omega)
  exact Uq hp hk h2 nb h3 hc hlt
 ·obtain⟨z1,z2⟩:=NZ h2 nb h3 W Ls hW fun i j hi hj e=>wN hi hj e
  exact⟨z1,by omega⟩
end
theorem drop_at {α:Type} [Inhabited α] {l r:List α} {i:Nat} {x:α} (h:l.drop i=x::r):i<l.length∧at' l i=x∧l.drop (i+1)=r:=by
 have hi:i<l.length:=by
  refine Classical.byContradiction fun q=> ?_
  rw [List.drop_eq_nil_of_le (by omega)]at h;cases h
 rw [List.drop_eq_getElem_cons hi]at h
 cases h
 exact⟨hi,bX hi,rfl⟩
section
variable {p:ah} {s:State} (hp:VP p) (hs:VS p s) {k:Nat}
include hp hs
theorem NE {l:List Part} (hl:l.length≤10000) {b:Nat} {rest:List Part} (h:PW p s k b rest):b<p.buses.toNat→ ∀(i:Nat) (met:List Int),l.drop i=rest→met.length+rest.length≤10000→(∀c∈met,(⟨1,c⟩:Part) ∉ rest)→rest.Nodup→
  ∃t,t<2∧ ∀n,rest.length+1≤n→aG (fP p s l) n ((b:Int),met,(i:Int))=some (.brk (fd p k t)):=by
 have hbb:=hp.b;have hsl:=hp.sl;have hll:=hp.ll
 have c1:=hs.closed;have c2:=hs.badLink;have c3:=hs.badBus
 induction h with
 |fin h1 h2=>
  intro hb i met hd q1 q2 q3
  rename_i b t
  refine⟨t,h1,fun n hn=> ?_⟩
  obtain⟨n,rfl⟩: ∃m,n=m+1:=⟨n - 1,by omega⟩
  have:l.length≤i:=by
   refine Classical.byContradiction fun q=> ?_
   rw [List.drop_eq_getElem_cons (by omega)]at hd;cases hd
  rw [aR]
  unfold fP
  dsimp only
  rw [nJ (by omega),cond_false,h2]
 |step h1 h2 h3 h4 ih=>
  intro hb i met hd hlen hmet hnd
  rename_i b m w r
  obtain⟨i1,e1,hd1⟩:=drop_at hd
  obtain⟨i2,e2,hd2⟩:=drop_at hd1
  have l2:=hp.lnk m h1;have la:=l2.a;have lb:=l2.b
  have hw:w<p.buses.toNat:=by omega
  have hwm:(w:Int) ∉ met:=fun q=>hmet _ q (List.mem_cons_of_mem _ List.mem_cons_self)
  rw [List.nodup_cons,List.nodup_cons]at hnd
  simp only [List.length_cons]at hlen
  obtain⟨t,ht,hrun⟩:=ih hw (i+2) (met++[(w:Int)]) hd2 (by simp;omega) (fun c hc=>by
   rcases List.mem_append.1 hc with hc|hc
   ·exact fun q=>hmet c hc (List.mem_cons_of_mem _ (List.mem_cons_of_mem _ q))
   ·rw [List.mem_singleton]at hc;subst hc;exact hnd.2.1) hnd.2.2
  refine⟨t,ht,fun n hn=> ?_⟩
  obtain⟨n,rfl⟩: ∃m,n=m+1:=⟨n - 1,by omega⟩
  have key:fP p s l ((b:Int),met,(i:Int))=some (.next ((w:Int),met++[(w:Int)],((i+2:Nat):Int))):=by
   unfold fP
   dsimp only
   have ec:(bif (bif (bif (!(at' s.closed m))then true else(at' s.badLink m))then true else(at' s.badBus (at' p.links m).a.toNat))then true else(at' s.badBus (at' p.links m).b.toNat))=false:=by
    unfold iA at h2
    revert h2
    cases at' s.closed m<;>cases at' s.badLink m<;>cases at' s.badBus (at' p.links m).a.toNat<;>cases at' s.badBus (at' p.links m).b.toNat<;>decide
   have eab:(bif (!decide ((at' p.links m).a=(b:Int)))then(!decide ((at' p.links m).b=(b:Int)))else false)=false:=by
    rcases h3 with⟨q,_⟩|⟨q,_⟩
    ·rw [decide_eq_true q];rfl
    ·rw [decide_eq_true q];cases decide ((at' p.links m).a=(b:Int))<;>rfl
   have esum:IntKind.wrap .i64 (IntKind.wrap .i64 ((at' p.links m).a+(at' p.links m).b) - (b:Int))=(w:Int):=by
    rw [wr (x:=(at' p.links m).a+(at' p.links m).b) (by omega),wr (by omega)];omega
   have ei:(IntKind.wrap .i64 ((i:Int)+1)).toNat=i+1:=by rw [wr (by omega)];omega
   have hm1:(0:Int)≤(m:Int)∧(m:Int)<(p.links.length:Int):=⟨by omega,by omega⟩
   rw [xV (by omega),cond_true,aj ⟨by omega,by omega⟩,Int.toNat_natCast,e1]
   dsimp only
   rw [decide_eq_true rfl,decide_eq_false (show ¬ (m:Int)<0 by omega),decide_eq_false (show ¬ (p.links.length:Int)≤(m:Int) by omega),aj hm1,Int.toNat_natCast,ec,eab]
   rw [aj ⟨⟨by omega,by omega⟩,fun _=> ⟨by omega,by omega⟩,fun _=> ⟨by omega,by omega⟩,fun _=> ⟨by omega,by omega⟩⟩,ei,e2,esum]
   dsimp only
   rw [decide_eq_true rfl,decide_eq_true rfl,has_eq _ _ (by omega),decide_eq_false hwm,show gB [((!(true && (true && true))),false)]=true from rfl,cond_true,Option.bind_some,aj ⟨by rw [wr (by omega)];omega,by rw [wr (by omega)];omega⟩,wr (x:=(i:Int)+2) (by omega)]
   show cZ _ _=_
   rw [aj ⟨by rw [List.length_singleton];omega,by rw [List.length_singleton];omega⟩]
   rfl
  rw [aR,key]
  exact hrun n (by simp only [List.length_cons]at hn;omega)
theorem KL (hk:k<p.racks.length) {l:List Part} (hl:l.length≤10000) (h:Way p s k l):mI p s (k:Int) l=some true:=by
 obtain⟨j,b,l',rfl,hj,hf,hb,hpw,hnd⟩:=h
 have hbb:=hp.b;have hsl:=hp.sl
 have hbr:=(hp.src j hj).bus
 have c1:=hs.on;have c2:=hs.badSource;have c3:=hs.badBus
 rw [List.nodup_cons,List.nodup_cons]at hnd
 obtain⟨t,ht,hrun⟩:=NE hp hs hl hpw (by omega) 2 [(b:Int)] rfl (by simp at hl ⊢;omega) (fun c hc=>by rw [List.mem_singleton]at hc;subst hc;exact hnd.2.1) hnd.2.2
 have heven: ∀{b:Nat} {l':List Part},PW p s k b l'→ ∃q,l'.length=2*q:=fun h=>by
  induction h with
  |fin _ _=>exact⟨0,rfl⟩
  |step _ _ _ _ ih=>obtain⟨q,e⟩:=ih;exact⟨q+1,by simp only [List.length_cons];omega⟩
 obtain⟨q,hq⟩:=heven hpw
 have hlen:(((⟨2,(j:Int)⟩:Part)::⟨1,(b:Int)⟩::l').length:Int)=2*(q:Int)+2:=by simp only [List.length_cons];omega
 have hmod:Int.tmod (2*(q:Int)+2) 2=0:=by rw [Int.tmod_eq_emod_of_nonneg (by omega)];omega
 have hrun:=hrun FUEL (by simp at hl;unfold FUEL;omega)
 unfold mI
 have z0:at' ((⟨2,(j:Int)⟩:Part)::⟨1,(b:Int)⟩::l') 0=⟨2,(j:Int)⟩:=rfl
 have z1:at' ((⟨2,(j:Int)⟩:Part)::⟨1,(b:Int)⟩::l') 1=⟨1,(b:Int)⟩:=rfl
 generalize ((⟨2,(j:Int)⟩:Part)::⟨1,(b:Int)⟩::l')=L at*
 rw [z0,z1,hlen,hmod]
 dsimp only
 have hj1:(0:Int)≤(j:Int)∧(j:Int)<(p.sources.length:Int):=⟨by omega,by omega⟩
 unfold eP at hf
 simp only [Bool.and_eq_true,Bool.not_eq_true']at hf
 obtain⟨⟨q1,q2⟩,q3⟩:=hf
 rw [hb,Int.toNat_natCast]at q3
 rw [aj ⟨fun _=>by decide,fun _=> ⟨by omega,by omega⟩,fun _=> ⟨by omega,by omega⟩,fun _=> ⟨by omega,by omega⟩⟩,decide_eq_false (show ¬ 2*(q:Int)+2<2 by omega),decide_eq_true rfl,decide_eq_true rfl,decide_eq_false (show ¬ (j:Int)<0 by omega),decide_eq_false (show ¬ (p.sources.length:Int)≤(j:Int) by omega)]
 rw [Int.toNat_natCast,q1,q2,hb,Int.toNat_natCast,q3,decide_eq_true rfl,decide_eq_true rfl]
 show cZ _ (cZ _ (cZ _ _))=_
 rw [aj ⟨by omega,by omega⟩,aj hj1,aj ⟨⟨by omega,by omega⟩,fun _=> ⟨by omega,by omega⟩,fun _=> ⟨by omega,by omega⟩,fun _=> ⟨by omega,by omega⟩⟩]
 show Option.bind (aG (fP p s L) FUEL ((b:Int),[(b:Int)],2)) _=_
 have hrun:aG (fP p s L) FUEL ((b:Int),[(b:Int)],2)=_:=hrun
 rw [hrun,Option.bind_some]
 dsimp only
 rw [Int.toNat_natCast,has_eq _ _ (by simp),Option.bind_some,aj ⟨by omega,by omega⟩]
 congr 1
 exact decide_eq_true (at_mem (l:=[(at' p.racks k).feeds.e0,(at' p.racks k).feeds.e1]) (by simpa using ht))
end
theorem M8 (l:List Part) (x:Part) (hl:l.length≤100000):bZ l x=some (match l.findIdx? (Qc x)with|some i=>(i:Int)|none=> -1):=by
 unfold bZ
 rw [gM l (Qc x) id (by omega) (fun i hi=> ?_) ?_]
 ·cases l.findIdx? (Qc x)<;>rfl
 ·unfold gu
  rw [nJ (by omega)];rfl
 ·unfold gu
  rw [xV (by omega),cond_true,aj ⟨by omega,by omega⟩,Int.toNat_natCast,wr (by omega)]
  exact uj _ _ _
theorem Gi (l:List Part) (x:Part) (hl:l.length≤100000):jB l x=some (l.any (Qc x)):=by
 unfold jB
 rw [M8 l x hl,Option.bind_some]
 exact congrArg some (kR l (Qc x))
theorem LB {α:Type} [Inhabited α] (l:List α) (a n i:Nat) (h:i<n):at' (vJ l a n) i=at' l (a+i):=by
 unfold vJ
 rw [bX (by simpa using h)]
 simp [Nat.add_comm]
theorem Sm {n:Int} (h:0≤n∧n≤1000000):lW n=some []:=by
 unfold lW
 have e:IntKind.wrap .i64 (n - IntKind.wrap .i64 ((0:Int) - ((([]:List Part).length:Nat):Int)))=n:=by
  rw [show IntKind.wrap .i64 ((0:Int) - ((([]:List Part).length:Nat):Int))=0 from wr (by simp)]
  rw [Int.sub_zero];exact wr (by omega)
 rw [decide_eq_false (by omega),cond_false,e]
 by_cases h0:0<n
 ·rw [decide_eq_true h0,cond_true,aj ⟨⟨by omega,by simp⟩,h0,by omega,by omega,by simp,by simp;omega⟩]
  rfl
 ·rw [decide_eq_false h0,cond_false]
theorem NM (W:List (List Part)) (hW:W.length≤1000) (hl:W.flatten.length≤100000):mV W=some W.flatten:=by
 have hle: ∀t,(W.take t).flatten.length≤W.flatten.length:=fun t=>by
  conv=>rhs;rw [←List.take_append_drop t W,List.flatten_append,List.length_append]
  omega
 have hst: ∀t,t<W.length→(W.take (t+1)).flatten=(W.take t).flatten++at' W t:=fun t ht=>by
  rw [d9 ht,List.flatten_append];simp
 have k0:=cK (body:=iK W) (fun t=>(((W.take t).flatten.length:Int),(t:Int))) W.length (.brk (W.flatten.length:Int)) (fuel_lt (by omega)) (fun t ht=>by
  have h1:=hle (t+1)
  rw [hst t ht,List.length_append]at h1
  unfold iK
  dsimp only
  rw [xV (by omega),cond_true,aj ⟨by omega,by omega⟩,Int.toNat_natCast,wr (by omega),decide_eq_false (by omega),cond_false,wr (by omega),hst t ht,List.length_append]
  simp only [Int.natCast_add]
  rfl) (by
  unfold iK
  dsimp only
  rw [nJ (by omega),List.take_length];rfl)
 have k1:=cK (body:=iH W) (fun t=>((W.take t).flatten,(t:Int))) W.length (.brk W.flatten) (fuel_lt (by omega)) (fun t ht=>by
  have h1:=hle (t+1)
  rw [hst t ht,List.length_append]at h1
  unfold iH
  dsimp only
  rw [xV (by omega),cond_true,aj ⟨by omega,by omega⟩,Int.toNat_natCast,aj ⟨by omega,by omega⟩,wr (by omega),hst t ht]
  rfl) (by
  unfold iH
  dsimp only
  rw [nJ (by omega),List.take_length];rfl)
 unfold mV
 have k0:aG (iK W) FUEL (0,0)=_:=k0
 rw [k0,Option.bind_some]
 dsimp only
 rw [Sm ⟨by omega,by omega⟩,Option.bind_some]
 have k1:aG (iH W) FUEL ([],0)=_:=k1
 rw [k1];rfl
section
variable {p:ah} {s:State} (hp:VP p) (hs:VS p s) {k:Nat} (hk:k<p.racks.length)
include hp hs hk
theorem FP {W:List (List Part)} (hn:W.length≤1000) (hw: ∀l∈W,Way p s k l) (hf:W.flatten.Nodup) (hlen:W.flatten.length≤10000):kL p s (k:Int) W=some 0:=by
 have hl1: ∀l∈W,l.length≤10000:=fun l hl=>Nat.le_trans (by
  have:=List.Sublist.length_le (List.sublist_flatten_of_mem hl)
  exact this) hlen
 have hc:gL W p.buses p.sources p.links p.racks s.closed s.locked s.badLink s.on_ s.badSource s.earthed s.badBus (k:Int)=some false:=by
  unfold gL kG
  rw [gM W (fun _=>false) id (by omega) (fun i hi=> ?_) ?_]
  ·rw [show W.findIdx? (fun _=>false)=none from List.findIdx?_eq_none_iff.2 fun _ _=>rfl]
   rfl
  ·unfold jw
   rw [nJ (by omega)];rfl
  ·unfold jw mo
   have:=KL hp hs hk (hl1 _ (at_mem hi)) (hw _ (at_mem hi))
   have this:mI ⟨p.buses,p.sources,p.links,p.racks⟩ ⟨s.closed,s.locked,s.badLink,s.on_,s.badSource,s.earthed,s.badBus⟩ (k:Int) (at' W i)=_:=this
   rw [xV (by omega),cond_true,Int.toNat_natCast,this,Option.bind_some,Option.bind_some,aj ⟨by omega,by omega⟩,wr (by omega)]
   rfl
 have hL:aG (gF W.flatten) FUEL 0=some (.brk ()):=by
  have:=cK (body:=gF W.flatten) (fun t=>(t:Int)) W.flatten.length (.brk ()) (fuel_lt (by omega)) (fun t ht=>by
   unfold gF
   have hno:(vJ W.flatten 0 t).any (Qc (at' W.flatten t))=false:=by
    rw [List.any_eq_false]
    intro x hx hq
    have hq:=LA.1 hq
    obtain⟨i,hi,e⟩:=dV hx
    rw [zk]at hi
    rw [LB _ _ _ _ hi,Nat.zero_add,←hq]at e
    unfold List.Nodup at hf
    rw [List.pairwise_iff_getElem]at hf
    refine hf i t (by omega) ht hi ?_
    rw [←bX (by omega),←bX ht,e]
   rw [xV (by omega),cond_true,aj ⟨by omega,by omega⟩,Int.toNat_natCast,Gi _ _ (by rw [zk];omega),hno,Option.bind_some,aj ⟨by omega,by omega⟩,wr (by omega)]
   rfl) (by
   unfold gF
   rw [nJ (by omega)];rfl)
  exact this
 unfold kL
 rw [yK hp hs hk,Option.bind_some,decide_eq_true rfl,Bool.not_true,cond_false,hc,Option.bind_some,cond_false,NM W hn (by omega),Option.bind_some,hL]
 rfl
end
section
variable {p:ah} {s:State} {l:List Transfer} (hp:VP p) (hs:VS p s) (hl:l.length≤16) (hx: ∀x∈l,Ea p x)
include hp hs hl hx
theorem Qf {parts:List Part} (hn:parts.length≤1000) (hi: ∀x∈parts,jk p x):mU p s l parts=some (KW p s l parts,0):=by
 have z:QW p s l=0:=zG.2 ⟨hp,hs,hl,hx⟩
 have hS:=VS.vF hs parts
 have z2: ∀n,QW p (vF s parts n) l=0:=fun n=>zG.2 ⟨hp,hS n,hl,hx⟩
 unfold mU
 rw [Hg p s l hp.small (by omega),Option.bind_some,decide_eq_true z,Bool.not_true,cond_false]
 have st: ∀n,n<parts.length→(0:Int)≤(n:Int)∧(n:Int)<(parts.length:Int):=fun n h=> ⟨by omega,by omega⟩
 have k1:=cK (body:=jO p parts) (fun n=>((vF s parts n).closed,(vF s parts n).locked,(vF s parts n).badLink,(vF s parts n).on_,(vF s parts n).badSource,(vF s parts n).earthed,(vF s parts n).badBus,(n:Int))) parts.length (.brk ((vF s parts parts.length).closed,(vF s parts parts.length).locked,(vF s parts parts.length).badLink,(vF s parts parts.length).on_,(vF s parts parts.length).badSource,(vF s parts parts.length).earthed,(vF s parts parts.length).badBus)) (fuel_lt (by omega)) (fun n hn'=>by
  unfold jO
  dsimp only
  rw [xV (by omega),cond_true,aj (st n hn'),Int.toNat_natCast]
  unfold mQ
  have:=FO hp (hS n) (hi _ (at_mem hn')) true
  have this:jK p ⟨(vF s parts n).closed,(vF s parts n).locked,(vF s parts n).badLink,(vF s parts n).on_,(vF s parts n).badSource,(vF s parts n).earthed,(vF s parts n).badBus⟩ (at' parts n) true=_:=this
  rw [this,Option.bind_some,Option.bind_some,wr (by omega)];rfl) (by
  unfold jO
  dsimp only
  rw [nJ (by omega)];rfl)
 have k1:aG (jO p parts) FUEL (s.closed,s.locked,s.badLink,s.on_,s.badSource,s.earthed,s.badBus,0)=_:=k1
 rw [k1,Option.bind_some]
 dsimp only
 have:=Fp p (vF s parts parts.length) l hp.small (by omega)
 rw [if_pos (z2 _)]at this
 have this:dX p ⟨(vF s parts parts.length).closed,(vF s parts parts.length).locked,(vF s parts parts.length).badLink,(vF s parts parts.length).on_,(vF s parts parts.length).badSource,(vF s parts parts.length).earthed,(vF s parts parts.length).badBus⟩ l=_:=this
 rw [this];rfl
end
theorem WZ {p:ah} {s:State} (hp:VP p) (hs:VS p s):kX p s=some (tab p.racks.length (yB p (fD p s)),0):=G9 hp hs (w9 hp hs) (oQ hp hs)
theorem Uk {W:List (List Part)} {C:List Part} {i j:Nat} (hi:i<W.length) (hj:j<C.length) (hw:(at' W i).length≤10000) (hon:at' C j∈at' W i) (hC:C.length≤1000) (hW:W.length≤1000):aG (gV (W,0) (C,0) (i:Int) (j:Int)) FUEL (false,0)=some (.brk true):=by
 have h1:(0:Int)≤(i:Int)∧(i:Int)<(W.length:Int):=⟨by omega,by omega⟩
 have key:=cK (body:=gV (W,0) (C,0) (i:Int) (j:Int)) (fun m=>((List.range m).any fun m=>Qc (at' (at' W i) m) (at' C j),(m:Int))) (at' W i).length (.brk ((List.range (at' W i).length).any fun m=>Qc (at' (at' W i) m) (at' C j))) (fuel_lt (by omega)) (fun m hm=> ?_) ?_
 ·have e:((List.range (at' W i).length).any fun m=>Qc (at' (at' W i) m) (at' C j))=true:=by
   obtain⟨m,hm,e⟩:=dV hon
   exact List.any_eq_true.2 ⟨m,List.mem_range.2 hm,LA.2 e⟩
  rw [e]at key
  exact key
 ·unfold gV
  dsimp only
  rw [aj h1,Int.toNat_natCast,xV (by omega),cond_true,aj ⟨fun _=>h1,fun _=> ⟨by omega,by omega⟩,fun _=> ⟨by omega,by omega⟩⟩,Int.toNat_natCast,Int.toNat_natCast,wr (by omega),zO,List.range_succ,List.any_append]
  simp only [List.any_cons,List.any_nil,Bool.or_false]
  rfl
 ·unfold gV
  dsimp only
  rw [aj h1,Int.toNat_natCast,nJ (by omega)];rfl
theorem U1 {W:List (List Part)} {C:List Part} (hw: ∀l∈W,l.length≤10000) (hon: ∀x∈C,∀l∈W,x∈l) (hC:C.length≤1000) (hW:W.length≤1000):aG (jH (W,0) (C,0)) FUEL 0=some (.brk ()):=by
 refine Du W (by omega) (fun i hi=> ?_) ?_
 ·have h1:aG (jG (W,0) (C,0) (i:Int)) FUEL 0=some (.brk ()):=by
   refine Du C (by omega) (fun j hj=> ?_) ?_
   ·unfold jG
    dsimp only
    rw [xV (by omega),cond_true,Uk hi hj (hw _ (at_mem hi)) (hon _ (at_mem hj) _ (at_mem hi)) hC hW,Option.bind_some,wr (by omega)]
    rfl
   ·unfold jG
    dsimp only
    rw [nJ (by omega)];rfl
  unfold jH
  dsimp only
  rw [xV (by omega),cond_true,h1,Option.bind_some,wr (by omega)]
 ·unfold jH
  dsimp only
  rw [nJ (by omega)];rfl
section
variable {p:ah} {s:State} {l:List Transfer} (hp:VP p) (hs:VS p s) (hl:l.length≤16) (hx: ∀x∈l,Ea p x) {k:Nat} (hk:k<p.racks.length)
include hp hs hl hx hk
theorem Uw (hf: ∀x,jk p x→lG p (aS s x true) k=true):aG (jI p s l (k:Int) (partsOf p,0)) FUEL 0=some (.brk ()):=by
 have hrl:=hp.rl
 have h72:=yP hp
 refine Du (partsOf p) (by omega) (fun i hi=> ?_) ?_
 ·have hcut:vJ (partsOf p) i ((IntKind.wrap .i64 ((i:Int)+1)).toNat - i)=[at' (partsOf p) i]:=by
   rw [wr (by omega),show((i:Int)+1).toNat - i=1 by omega]
   refine Gt (by rw [zk];rfl) fun q hq=> ?_
   rw [zk]at hq
   rw [LB _ _ _ _ hq,show q=0 by omega];rfl
  have hpi: ∀x∈[at' (partsOf p) i],jk p x:=fun x hxm=>by rw [List.mem_singleton]at hxm;subst hxm;exact qP hp (at_mem hi)
  have h1:aG (dQ p s l (k:Int) (partsOf p,0) (i:Int)) FUEL 0=some (.brk ()):=by
   have st: ∀(t:Nat),t<2→dQ p s l (k:Int) (partsOf p,0) (i:Int) (t:Int)=some (.next ((t:Int)+1)):=fun t ht=>by
    obtain⟨T,hT,hT1,hT2⟩: ∃T,at' [([]:List Transfer),l] t=T∧T.length≤16∧ ∀x∈T,Ea p x:=by
     match t,ht with
     |0,_=>exact⟨[],rfl,by simp,fun _ h=>(by cases h)⟩
     |1,_=>exact⟨l,rfl,hl,hx⟩
    have ha:=Qf hp hs hT1 hT2 (parts:=[at' (partsOf p) i]) (by simp) hpi
    have hv:=PE (l:=T) hp hs hT2 [at' (partsOf p) i]
    have hfd:lG p (KW p s T [at' (partsOf p) i]) k=true:=IA hp hs hT2 hk (hf _ (qP hp (at_mem hi)))
    unfold lG at hfd
    have hlen:((tab p.racks.length (yB p (fD p (KW p s T [at' (partsOf p) i])))).length:Int)=(p.racks.length:Int):=by rw [bO]
    have hc:(0:Int)≤(k:Int)∧(k:Int)<((tab p.racks.length (yB p (fD p (KW p s T [at' (partsOf p) i])))).length:Int):=⟨by omega,by omega⟩
    unfold dQ
    dsimp only
    have hln:([([]:List Transfer),l].length:Int)=2:=rfl
    rw [hln,xV (by omega),cond_true,aj ⟨by omega,by omega⟩,Int.toNat_natCast,Int.toNat_natCast,hT,hcut,ha,Option.bind_some,aj ⟨by omega,by rw [wr (by omega)];omega,by rw [wr (by omega)];omega⟩]
    dsimp only
    rw [WZ hp hv,Option.bind_some,aj ⟨fun _=>hc,fun _=>hc⟩,wr (by omega),Int.toNat_natCast]
    dsimp only
    rw [AZ hk,decide_eq_true rfl,decide_eq_true hlen]
    revert hfd
    generalize yB p (fD p (KW p s T [at' (partsOf p) i])) k=F
    obtain⟨a,b⟩:=F
    cases a<;>cases b<;>intro h<;>first|rfl|(cases h)
   refine gT (n:=3) ?_ (by unfold FUEL;omega)
   have s0:dQ p s l (k:Int) (partsOf p,0) (i:Int) 0=_:=st 0 (by omega)
   have s1:dQ p s l (k:Int) (partsOf p,0) (i:Int) 1=_:=st 1 (by omega)
   rw [aR,s0]
   show aG _ 2 1=_
   rw [aR,s1]
   show aG _ 1 2=_
   rw [aR]
   unfold dQ
   dsimp only
   have hln:([([]:List Transfer),l].length:Int)=2:=rfl
   rw [hln,nJ (by omega)];rfl
  unfold jI
  dsimp only
  rw [xV (by omega),cond_true,h1,Option.bind_some,wr (by omega)]
 ·unfold jI
  dsimp only
  rw [nJ (by omega)];rfl
end
theorem Ed (p:ah) (s:State) (rack:Int) (l:List Transfer) (hp:Small p):lX p s rack l=some true:=by
 unfold lX
 cases hB:(bif (bif (bif (bif (decide (60<(p.sources.length:Int)))then true else(decide (60<(p.links.length:Int))))then true else(decide (60<(p.racks.length:Int))))then true else(decide ((p.racks.length:Int)=0)))then true else(decide (60<(l.length:Int))))with
 |true=>simp [gB,BZ]
 |false=>
  have hl:l.length≤60:=by
   by_cases h:60<(l.length:Int)
   ·rw [decide_eq_true h,zO,Bool.or_true]at hB;cases hB
   ·omega
  have hr0:1≤p.racks.length:=by
   by_cases h:(p.racks.length:Int)=0
   ·simp [h]at hB
   ·omega
  rw [show gB [(false,false)]=true from rfl,cond_true,kC p s hp,Option.bind_some,cond_false]
  by_cases h0:qK p s=0
  ·obtain⟨hv,hs⟩:=lJ.mp h0
   have hrl:=hv.rl
   obtain⟨o,ho,ho1,ho2⟩:=Pq hv hs l (by omega)
   obtain⟨k,hk,hkl⟩:=RA rack (p.racks.length:Int) ⟨by omega,by omega⟩
   have hkl:k<p.racks.length:=by omega
   obtain⟨K,W,hW,hWl,hK,g0,g1,g2,gw,gf,hfl⟩:=Gl hv hs hkl
   have hP:=bg (p:=p);have hb:=hv.b;have hsl:=hv.sl;have hll:=hv.ll
   have hS:iC p s (k:Int)=some ((K:Int),0):=by
    unfold iC
    rw [hW,Option.bind_some]
    dsimp only
    rw [hWl]
   have hwl: ∀x∈W,x.length≤10000:=fun x hx=>Nat.le_trans (List.Sublist.length_le (List.sublist_flatten_of_mem hx)) (by omega)
   have hcw:=FP hv hs hkl (W:=W) (by omega) gw gf (by omega)
   have h72:(pz p s k).length≤1000:=Nat.le_trans (List.length_filter_le _ _) (by have:=Fj (s:=s) hv;omega)
   rw [h0,decide_eq_true rfl,Bool.not_true,cond_false,ho,Option.bind_some,hk,Option.bind_some,hS,Option.bind_some,hW,Option.bind_some,I6 hv hs hkl,Option.bind_some,WZ hv hs,Option.bind_some]
   dsimp only
   have hlen:((tab p.racks.length (yB p (fD p s))).length:Int)=(p.racks.length:Int):=by rw [bO]
   have hc:(0:Int)≤(k:Int)∧(k:Int)<((tab p.racks.length (yB p (fD p s))).length:Int):=⟨by omega,by omega⟩
   rw [decide_eq_true hlen,decide_eq_true (show(W.length:Int)=(K:Int) by omega),decide_eq_false (show ¬ (K:Int)<0 by omega),decide_eq_false (show ¬ (2:Int)<(K:Int) by omega),decide_eq_true rfl]
   rw [show gB [((bif (bif (bif (bif (bif (bif (bif !true then true else !true)then true else !true)then true else !true)then true else !true)then true else !true)then true else false)then true else false),false)]=true from rfl,cond_true,hcw,Option.bind_some,decide_eq_true rfl]
   show cZ _ _=_
   rw [aj ⟨hc,fun _=>hc⟩,Int.toNat_natCast,AZ hkl]
   have efb:(bif (yB p (fD p s) k).e0 then true else(yB p (fD p s) k).e1)=lG p s k:=by unfold lG;exact zO _ _
   rw [efb]
   have hcr: ∀x∈(bif lG p s k then pz p s k else []),∀y∈W,x∈y:=fun x hx y hy=>by
    cases hfb:lG p s k with
    |false=>rw [hfb]at hx;cases hx
    |true=>rw [hfb]at hx;exact RF hv hs hkl hx (gw y hy)
   have hcl:(bif lG p s k then pz p s k else []).length≤1000:=by cases lG p s k<;>simp<;>omega
   have htest:(bif (bif !(lG p s k==decide (0<(K:Int)))then true else bif lG p s k then !(decide (((bif lG p s k then pz p s k else []).length:Int)=0)==decide ((K:Int)=2))else false)then true else bif !lG p s k then decide (0<((bif lG p s k then pz p s k else []).length:Int))else false)=false:=by
    cases hfb:lG p s k with
    |false=>
     have:=g0.2 hfb
     subst this;rfl
    |true=>
     have hK0:K≠0:=fun e=>by rw [g0.1 e]at hfb;cases hfb
     rw [decide_eq_true (show 0<(K:Int) by omega)]
     by_cases h1:K=1
     ·have:=g1 h1
      have:(pz p s k).length≠0:=fun e=>this (List.eq_nil_of_length_eq_zero e)
      simp only [cond_true];rw [decide_eq_false (by omega),decide_eq_false (by omega)];rfl
     ·have h2:K=2:=by omega
      have hnil:pz p s k=[]:=by
       cases hcc:pz p s k with
       |nil=>rfl
       |cons x r=>
        have hm:x∈pz p s k:=by rw [hcc];exact List.mem_cons_self
        obtain⟨m1,m2⟩:=List.mem_filter.1 hm
        rw [g2 h2 _ (A9 hv m1)]at m2;cases m2
      simp only [cond_true];rw [hnil,decide_eq_true (by simp),decide_eq_true (by omega)];rfl
   rw [htest,cond_false,U1 hwl hcr hcl (by omega),Option.bind_some]
   dsimp only
   by_cases h2:(K:Int)<2
   ·rw [decide_eq_true h2,cond_true,BZ];rfl
   ·rw [decide_eq_false h2,cond_false,parts_eq hv,Option.bind_some]
    dsimp only
    rw [decide_eq_true rfl,Bool.not_true,cond_false,Uw hv hs ho1 ho2 hkl (g2 (by omega)),Option.bind_some]
    dsimp only
    rw [BZ];rfl
  ·rw [decide_eq_false h0,Bool.not_false,cond_true,BZ];rfl
end Sg
