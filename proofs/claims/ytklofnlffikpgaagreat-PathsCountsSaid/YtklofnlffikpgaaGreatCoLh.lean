import Derived.Test.YtklofnlffikpgaaGreatCoLg
set_option linter.all false
namespace Sg
open Go
theorem WM {ρ:Type} (l:List Part) (hl:l.length<=100000) (pr:Part->Bool) {body:(List Part × Int × Int)->Option (aV (List Part × Int × Int) (Ex (List Part × Int) ρ))}
  (hb: ∀(o:List Part) (i j:Nat),j<l.length->o.length=l.length->i<=j->at' o j=at' l j->body (o,(i:Int),(j:Int))=some (.next (bif pr (at' l j)then(o,(i:Int),(j:Int)+1)else(o.set i (at' l j),(i:Int)+1,(j:Int)+1))))
  (he: ∀(o:List Part) (i:Int),o.length=l.length->body (o,i,(l.length:Int))=some (.done (.brk (o,i)))) {k:Nat} (hk:k<l.length) (hkb:pr l[k]=true) (hkn: ∀j (h:j<l.length),j<k->pr l[j]=false):
  ∃(o:List Part) (i:Nat),ay body FUEL (l,(k:Int),(k:Int)+1)=some (.brk (o,(i:Int)))/\i<=o.length/\o.take i=l.filter (fun x=> !pr x):=by
 obtain⟨r,hr,o,i,rfl,h1,h2⟩:=qM (body:=body) (fun q=> ∃i j:Nat,q.2.1=(i:Int)/\q.2.2=(j:Int)/\i<=j/\j<=l.length/\q.1.length=l.length/\q.1.take i=(l.take j).filter (fun x=> !pr x)/\ ∀k,j<=k->k<l.length->at' q.1 k=at' l k) (fun q=>l.length - q.2.2.toNat)
  (fun r=> ∃(o:List Part) (i:Nat),r= .brk (o,(i:Int))/\i<=o.length/\o.take i=l.filter (fun x=> !pr x)) (fun q hq=>by
   obtain⟨o,ii,jj⟩:=q
   obtain⟨i,j,hi,hj,hij,hjl,hol,ht,hk⟩:=hq
   dsimp only at hi hj hol ht hk
   subst hi hj
   by_cases hc:j<l.length
   ·refine⟨_,hb o i j hc hol hij (hk j (cz j) hc), ?_⟩
    cases hpr:pr (at' l j)with
    |true=>
     refine⟨⟨i,j+1,rfl,rfl,by omega,hc,hol, ?_,fun k h1 h2=>hk k (by omega) h2⟩,by simp only [bt];omega⟩
     rw [dA hc,eC]
     simp only [bt]
     rw [ht]
     simp [hpr]
    |false=>
     refine⟨⟨i+1,j+1,rfl,rfl,by omega,hc,by simp only [bu,cL];exact hol, ?_,fun k h1 h2=> ?_⟩,by simp only [bu];omega⟩
     ·simp only [bu]
      rw [dA (by rw [cL];omega),dA hc,eC,bT (by omega),List.take_set_of_le (cz i),ht]
      simp [hpr]
     ·simp only [bu]
      rw [bg (by omega)]
      exact hk k (by omega) h2
   ·have:j=l.length:=by omega
    subst this
    exact⟨_,he o i hol,o,i,rfl,by omega,by rw [ht,ee]⟩) FUEL (l,(k:Int),(k:Int)+1) ⟨k,k+1,rfl,rfl,by omega,hk,rfl,by
    dsimp only
    rw [dA hk,eC,bZ hk]
    simp only [List.filter_cons,hkb,cE,List.filter_nil,Bool.false_eq_true,if_false,cX]
    symm
    rw [List.filter_eq_self]
    intro x hxm
    obtain⟨m,hm,e⟩:=List.mem_take_iff_getElem.1 hxm
    have:=hkn m (by omega) (by omega)
    rw [e]at this
    rw [this];rfl,fun _ _ _=>rfl⟩ (fuel_lt (by dsimp only;omega))
 exact⟨o,i,hr,h1,h2⟩
section
variable {p:ah} {s:State} (hp:VP p) (hs:VS p s) {k:Nat} (hk:k<p.a_.length)
include hp hs hk
theorem xL:rQ p s k=true↔Fd p s k:=by
 have hr:=hp.rck k hk;have r0:=hr.e0;have r1:=hr.e1
 unfold rQ ES
 rw [cQ]
 dsimp only
 constructor
 ·rintro (h|h)
  ·exact⟨0,by omega,r0.1,(pX hp hs (b:=(at' p.a_ k).ba.e0.toNat) (by omega)).1 h⟩
  ·by_cases h0:0<=(at' p.a_ k).ba.e1
   ·rw [bz h0,bt]at h
    exact⟨1,by omega,h0,(pX hp hs (b:=(at' p.a_ k).ba.e1.toNat) (by omega)).1 h⟩
   ·rw [b_ h0,bu]at h;cases h
 ·rintro ⟨t,ht,h0,hL⟩
  match t,ht with
  |0,_=>exact .inl ((pX hp hs (b:=(at' p.a_ k).ba.e0.toNat) (by omega)).2 hL)
  |1,_=>
   have h0:0<=(at' p.a_ k).ba.e1:=h0
   rw [bz h0,bt]
   exact .inr ((pX hp hs (b:=(at' p.a_ k).ba.e1.toNat) (by omega)).2 hL)
omit hk in
theorem U0 {x:Part} (hx:kr p x): ∃ix,Zm p s (aU s x true) ix:=by
 have hb:=hp.b
 have h7:=hs.al;have h3:=hs.am;have h5:=hs.ag
 obtain⟨c,j⟩:=x
 obtain⟨h0,h⟩:=hx
 dsimp only at h0 h
 rcases h with⟨rfl,hj⟩|⟨rfl,hj⟩|⟨rfl,hj⟩
 ·have e:aU s ⟨1,j⟩ true=⟨s.aq,s.aw,s.am,s.on_,s.ag,s.ar,s.al.set j.toNat true⟩:=by unfold aU;rw [cj rfl]
  rw [e]
  refine⟨j.toNat,fun m hm _ h2 hf=> ?_,fun m hm _ h2 h3 hc=> ?_,fun b hb' hl q=> ?_⟩
  ·unfold bY at hf ⊢
   dsimp only
   rw [bg (Ne.symm h2)];exact hf
  ·unfold dD at hc ⊢
   dsimp only
   rw [bg (Ne.symm h2),bg (Ne.symm h3)];exact hc
  ·subst q
   have:=hl.1
   dsimp only at this
   rw [bT (by omega)]at this;cases this
 ·have e:aU s ⟨2,j⟩ true=⟨s.aq,s.aw,s.am,s.on_,s.ag.set j.toNat true,s.ar,s.al⟩:=by unfold aU;rw [ci (show ¬ (2:Int)=1 by decide),cj rfl]
  rw [e]
  refine⟨p.ap.toNat+j.toNat,fun m hm h1 _ hf=> ?_,fun m hm _ _ _ hc=>hc,fun b hb' hl q=>by omega⟩
  unfold bY at hf ⊢
  dsimp only
  rw [bg (by omega)];exact hf
 ·have e:aU s ⟨3,j⟩ true=⟨s.aq,s.aw,s.am.set j.toNat true,s.on_,s.ag,s.ar,s.al⟩:=by unfold aU;rw [ci (show ¬ (3:Int)=1 by decide),ci (show ¬ (3:Int)=2 by decide)]
  rw [e]
  refine⟨p.ap.toNat+p.aa.length+j.toNat,fun m hm _ _ hf=>hf,fun m hm h1 _ _ hc=> ?_,fun b hb' hl q=>by omega⟩
  unfold dD at hc ⊢
  dsimp only
  rw [bg (by omega)];exact hc
theorem xG:eH p s (k:Int)=some 0:=by
 unfold eH
 rw [qO p s hp.small,kK.mpr ⟨hp,hs⟩,bs,bz rfl,cE,bu,b_ (by omega),bu,b_ (by omega),bu]
def vo (p:ah) (s:State) (k:Nat):List Part:=(vM p s).filter fun x=> !rQ p (aU s x true) k
theorem Lm {x:Part} (hx:kr p x):iO x p.ap p.aa p.ae p.a_ s.aq s.aw s.am s.on_ s.ag s.ar s.al (k:Int)=some (rQ p (aU s x true) k):=by
 unfold iO qR
 have h1:=QB hp hs hx true
 have h1:mH ⟨p.ap,p.aa,p.ae,p.a_⟩ ⟨s.aq,s.aw,s.am,s.on_,s.ag,s.ar,s.al⟩ x true=_:=h1
 rw [h1,bs,bs]
 have h2:=M7 hp (VS.aU hs x true) hk
 have h2:pu ⟨p.ap,p.aa,p.ae,p.a_⟩ (aU s x true) (k:Int)=_:=h2
 dsimp only
 rw [h2];rfl
theorem K5:dJ p s (k:Int)=some (bif rQ p s k then vo p s k else [],0):=by
 have h72:=Ej (s:=s) hp
 unfold dJ
 rw [xG hp hs hk,bs,bz rfl,cE,bu,M7 hp hs hk,bs]
 cases rQ p s k with
 |false=>rfl
 |true=>
  rw [cE,bu,TB hp hs,bs,bt]
  have hi: ∀x∈vM p s,kr p x:=fun x hx=>En hp hx
  have key:iD (vM p s) p.ap p.aa p.ae p.a_ s.aq s.aw s.am s.on_ s.ag s.ar s.al (k:Int)=some (vo p s k):=by
   unfold vo
   generalize vM p s=l at h72 hi
   unfold iD
   have hidx:gN l p.ap p.aa p.ae p.a_ s.aq s.aw s.am s.on_ s.ag s.ar s.al (k:Int)=some (match l.findIdx? (fun x=>rQ p (aU s x true) k)with|some i=>(i:Int)|none=> -1):=by
    unfold gN
    rw [fH l (fun x=>rQ p (aU s x true) k) id (by omega) (fun i hil=> ?_) ?_]
    ·cases l.findIdx? (fun x=>rQ p (aU s x true) k)<;>rfl
    ·unfold iB
     rw [ji (by omega)];rfl
    ·unfold iB
     rw [bw,Lm hp hs hk (hi _ (at_mem hil))]
     exact rz hil (by omega) _ id _
   rw [hidx,bs]
   cases h:l.findIdx? (fun x=>rQ p (aU s x true) k)with
   |none=>
    dsimp only
    rw [bz rfl,bt]
    congr 1
    symm
    rw [List.filter_eq_self]
    intro x hxm
    have:=List.findIdx?_eq_none_iff.1 h x hxm
    rw [this];rfl
   |some m=>
    obtain⟨hm,hmb,hmn⟩:=List.findIdx?_eq_some_iff_getElem.1 h
    dsimp only
    rw [b_ (by omega),bu,wr (by omega)]
    obtain⟨o,i,hr,h1,h3⟩:=WM l (by omega) (fun x=>rQ p (aU s x true) k) (body:=fV p.ap p.aa p.ae p.a_ s.aq s.aw s.am s.on_ s.ag s.ar s.al (k:Int)) (fun o i j hj hol hij hat=>by
     unfold fV
     dsimp only
     rw [sM (by omega),bt,ai ⟨by omega,by omega⟩,bw,hat,Lm hp hs hk (hi _ (at_mem hj)),bs,ai ⟨by omega,by omega⟩,wr (by omega),wr (by omega),bw]
     cases rQ p (aU s (at' l j) true) k<;>rfl) (fun o i hol=>by
     unfold fV
     dsimp only
     rw [ji (by omega)];rfl) hm hmb (fun j hj hjm=>by have:=hmn j hjm;simpa using this)
    rw [hr,bs]
    dsimp only
    have hc:=CR o i (⟨0,0⟩:Part)
    rw [ai ⟨by omega,by omega⟩,bw,ai ⟨by omega,by omega⟩,Jd,h3]
  rw [key];rfl
end
def Vn (x y:Part):Bool:=(decide (x.kind=y.kind)) && ((decide (x.index=y.index)) && true)
theorem J3 {x y:Part}:Vn x y=true↔x=y:=by
 obtain⟨a,b⟩:=x;obtain⟨c,d⟩:=y
 simp [Vn]
section
variable {p:ah} {s:State} {l:List Transfer} (hp:VP p) (hs:VS p s) (hl:l.length<=16) (hx: ∀x∈l,YZ p x)
include hp hs hx
include hl
end
theorem fI {α:Type} [Inhabited α] (l:List α) (a n:Nat):(nW l a n).length=n:=by unfold nW;simp
def Oj (e1:List (Int × List Int)):Int->List Nat->Prop
  |u,[]=> -2∈aC u e1
  |u,i::L=>2*(i:Int)∈aC u e1/\Oj e1 (2*(i:Int)+1) L
def prC (u:Int) (L:List Nat):Nat->Int
  |0=>u
  |a+1=>2*((at' L a:Nat):Int)+1
theorem CQ {α:Type} [Inhabited α] (x:α) (l:List α):at' (x::l) 0=x:=by simp [at']
theorem Mf {α:Type} [Inhabited α] (x:α) (l:List α) (n:Nat):at' (x::l) (n+1)=at' l n:=by simp [at']
theorem O8 {α:Type} [Inhabited α] (l:List α) (x:α):at' (l++[x]) l.length=x:=by
  rw [bZ (by simp)];simp
theorem xu {e1:List (Int × List Int)}: ∀(L:List Nat) (u:Int),Oj e1 u L-> ∀a,a<L.length->2*((at' L a:Nat):Int)∈aC (prC u L a) e1
  |[],_,_,a,h=>by simp at h
  |i::L,u,hc,0,_=>by rw [CQ];exact hc.1
  |i::L,u,hc,a+1,h=>by
    have:=xu L _ hc.2 a (by simpa using h)
    rw [Mf]
    cases a with
    |zero=>show _∈aC (2*((at' (i::L) 0:Nat):Int)+1) e1;rw [CQ];exact this
    |succ c=>show _∈aC (2*((at' (i::L) (c+1):Nat):Int)+1) e1;rw [Mf];exact this
theorem Kk {e1:List (Int × List Int)} (hI:IND e1) {L1 L2:List Nat} (h1:Oj e1 (-1) L1) (h2:Oj e1 (-1) L2): ∀a b,a<L1.length->b<L2.length->at' L1 a=at' L2 b->a=b/\at' L1 0=at' L2 0
  |0,0,_,_,e=> ⟨rfl,e⟩
  |0,b+1,ha,hb,e=>by
    have p1:=xu L1 _ h1 0 ha;have p2:=xu L2 _ h2 (b+1) hb
    rw [e]at p1
    have:=hI _ _ _ (by omega) p1 p2
    simp only [prC]at this
    omega
  |a+1,0,ha,hb,e=>by
    have p1:=xu L1 _ h1 (a+1) ha;have p2:=xu L2 _ h2 0 hb
    rw [e]at p1
    have:=hI _ _ _ (by omega) p1 p2
    simp only [prC]at this
    omega
  |a+1,b+1,ha,hb,e=>by
    have p1:=xu L1 _ h1 (a+1) ha;have p2:=xu L2 _ h2 (b+1) hb
    rw [e]at p1
    have:=hI _ _ _ (by omega) p1 p2
    simp only [prC]at this
    obtain⟨q1,q2⟩:=Kk hI h1 h2 a b (by omega) (by omega) (by omega)
    exact⟨by omega,q2⟩
theorem Mw {e1:List (Int × List Int)} (hI:IND e1) {L:List Nat} (h:Oj e1 (-1) L):L.Nodup:=by
  unfold List.Nodup
  rw [eK]
  intro i j hi hj hij e
  rw [<-bZ hi,<-bZ hj]at e
  have:=(Kk hI h h i j hi hj e).1
  omega
theorem Uv {e1:List (Int × List Int)} (hI:IND e1) {L1 L2:List Nat} (h1:Oj e1 (-1) L1) (h2:Oj e1 (-1) L2) (hne:at' L1 0≠at' L2 0): ∀x∈L1,∀y∈L2,x≠y:=fun x hx y hy e=>by
  obtain⟨a,ha,ea⟩:=dX hx
  obtain⟨b,hb,eb⟩:=dX hy
  exact hne (Kk hI h1 h2 a b ha hb (by rw [ea,eb,e])).2
section
variable {M P:Nat} {B:Int->Int->Prop} {e0 e1:List (Int × List Int)} {K:Nat} (hM:M=2*P+2) (g:GI M B e0 e1) (nb:NB P B) (fl:FL K e1)
include hM g nb fl
theorem Xg {ps:List Part} (hps:ps.length=P) (hP:P<=1000) (q:Int × List Part) (hq:WI P M e1 q):(q.1= -2/\bQ ⟨ps,⟨e0,e1⟩⟩ q=some (.done (.brk q.2)))\/
    ∃i:Nat,i<P/\q.1=2*(i:Int)/\0<(aC (2*(i:Int)+1) e1).length/\bQ ⟨ps,⟨e0,e1⟩⟩ q=some (.next (at' (aC (2*(i:Int)+1) e1) 0,q.2++[at' ps i])):=by
  obtain⟨a,way⟩:=q
  unfold bQ
  dsimp only
  by_cases h2:a= -2
  · exact .inl ⟨h2,by subst h2;rfl⟩
  · rcases hq with⟨hq,_⟩|⟨i,hi,hai,T,hT,hTe,haT,hlen,hpre⟩
    · exact absurd hq h2
    · dsimp only at hai haT hlen hpre
      obtain⟨x,hx,_⟩:=hpre a haT
      have hgo:=P5 g nb fl (i:=i) (x:=x) (hai ▸ hx)
      have hTl:T.length<=M:=D7 M T hT fun w hw=>by
        obtain⟨j,hj,e⟩:=hTe w hw
        omega
      have ht:Int.tdiv a 2=(i:Int):=by rw [hai,Int.mul_tdiv_cancel_left _ (by decide)]
      refine .inr ⟨i,hi,hai,hgo, ?_⟩
      rw [b_ h2,cF,bt,ht,wr (x:=(i:Int)) (by omega),ai ⟨by decide,⟨by omega,by omega⟩,by rw [cx];omega,by rw [cx];omega⟩,wr (x:=a+1) (by omega),wW,hai,ai ⟨by omega,by omega⟩,bw]
def CI (P:Nat) (ps:List Part) (e1:List (Int × List Int)) (x:Nat) (q:Int × List Part):Prop:=
  (q.1= -2/\ ∃L',q.2=(x::L').map (at' ps)/\(∀i∈x::L',i<P)/\Oj e1 (2*(x:Int)+1) L')\/
  ∃(i:Nat) (L:List Nat),i<P/\q.1=2*(i:Int)/\q.2=L.map (at' ps)/\(∀j∈L,j<P)/\ ∀R,Oj e1 (2*(i:Int)+1) R-> ∃L',L++i::R=x::L'/\Oj e1 (2*(x:Int)+1) L'
theorem Qd {ps:List Part} (hps:ps.length=P) (hP:P<=1000) {x:Nat} (q:Int × List Part) (hq:WI P M e1 q) (hc:CI P ps e1 x q): ∃f,bQ ⟨ps,⟨e0,e1⟩⟩ q=some f/\match f with
    | .next q'=>(WI P M e1 q'/\CI P ps e1 x q')/\M+5 - q'.2.length<M+5 - q.2.length
    | .done r=> ∃w,r= .brk w/\ ∃L',w=(x::L').map (at' ps)/\(∀i∈x::L',i<P)/\Oj e1 (2*(x:Int)+1) L':=by
  obtain⟨f,hf,hpost⟩:=M0 hM g nb fl hps hP q hq
  rcases Xg hM g nb fl hps hP q hq with⟨h2,hv⟩|⟨i,hi,hai,hgo,hv⟩
  · rw [hv]at hf
    cases hf
    refine⟨_,hv,_,rfl, ?_⟩
    rcases hc with⟨_,h⟩|⟨i,L,_,hq1,_⟩
    · exact h
    · omega
  · rw [hv]at hf
    cases hf
    refine⟨_,hv,⟨hpost.1, ?_⟩,hpost.2⟩
    rcases hc with⟨h2,_⟩|⟨i',L,hi',hq1,hq2,hL,hR⟩
    · omega
    · have:i'=i:=by omega
      subst this
      have hm:=at_mem hgo
      rcases nb.odd i' _ ((g.base _ _).2 (.inr hm))with e|⟨j,hj,e⟩
      · obtain⟨L',e1',hch⟩:=hR [] (by show -2∈aC _ e1;rw [<-e];exact hm)
        refine .inl ⟨e,L', ?_, ?_,hch⟩
        · rw [<-e1',List.map_append,hq2];rfl
        · rw [<-e1'];intro k hk
          rcases cA.1 hk with hk|hk
          · exact hL k hk
          · rw [cH]at hk;omega
      · refine .inr ⟨j,L++[i'],hj,e,by dsimp only;rw [List.map_append,hq2];rfl,fun k hk=> ?_,fun R hRc=> ?_⟩
        · rcases cA.1 hk with hk|hk
          · exact hL k hk
          · rw [cH]at hk;omega
        · obtain⟨L',e1',hch⟩:=hR (j::R) ⟨by rw [<-e];exact hm,hRc⟩
          exact⟨L',by rw [<-e1'];simp,hch⟩
def E5 (P K:Nat) (ps:List Part) (e1:List (Int × List Int)) (W:List (List Part)) (Ls:List (List Nat)):Prop:=
  W=Ls.map (List.map (at' ps))/\Ls.length=K/\ ∀t,t<K-> ∃x L',at' Ls t=x::L'/\at' (aC (-1) e1) t=2*(x:Int)/\Oj e1 (-1) (at' Ls t)/\ ∀i∈at' Ls t,i<P
theorem UY {ps:List Part} (hps:ps.length=P) (hP:P<=1000) (hK:K<=1000): ∃W Ls,dS ⟨ps,⟨e0,e1⟩⟩=some W/\E5 P K ps e1 W Ls:=by
  have hs:=KD g nb fl
  obtain⟨r,hr,W,rfl,Ls,hW⟩:=qM (body:=gy ⟨ps,⟨e0,e1⟩⟩) (fun q=> ∃t:Nat,q.2=(t:Int)/\t<=K/\ ∃Ls,E5 P t ps e1 q.1 Ls) (fun q=>K - q.2.toNat) (fun r=> ∃W,r= .brk W/\ ∃Ls,E5 P K ps e1 W Ls) (fun q hq=>by
    obtain⟨out,tt⟩:=q
    obtain⟨t,ht,htK,Ls,hW,hlen,hall⟩:=hq
    dsimp only at ht hW
    subst ht
    have hol:out.length=t:=by rw [hW,dt,hlen]
    unfold gy
    dsimp only
    rw [wW]
    by_cases hc:t<K
    · have hm:at' (aC (-1) e1) t∈aC (-1) e1:=at_mem (by omega)
      obtain⟨i,hi,e⟩:=nb.fst _ ((g.base _ _).2 (.inr hm))
      obtain⟨w,hw,way,rfl,L',hL1,hL2,hL3⟩:=qM (body:=bQ ⟨ps,⟨e0,e1⟩⟩) (fun q=>WI P M e1 q/\CI P ps e1 i q) (fun q=>M+5 - q.2.length) (fun r=> ∃w,r= .brk w/\ ∃L',w=(i::L').map (at' ps)/\(∀j∈i::L',j<P)/\Oj e1 (2*(i:Int)+1) L')
        (fun q hq=>by obtain⟨f,e,hf⟩:=Qd hM g nb fl hps hP q hq.1 hq.2;exact⟨f,e,by cases f<;>exact hf⟩) FUEL (at' (aC (-1) e1) t,([]:List Part))
        ⟨.inr ⟨i,hi,e,[at' (aC (-1) e1) t],by simp,fun w hw=>by rw [cH]at hw;subst hw;exact⟨i,hi,e⟩,by simp,by simp,fun w hw=>by rw [cH]at hw;subst hw;exact⟨-1,hm, .inl rfl⟩⟩,
         .inr ⟨i,[],hi,e,rfl,fun _ h=>(by cases h),fun R hR=> ⟨R,rfl,hR⟩⟩⟩ (fuel_lt (by simp;omega))
      rw [sM (by omega),bt,ai ⟨by omega,by omega⟩,bw,hw,bs]
      dsimp only
      rw [ai ⟨by rw [cx];omega,by rw [cx];omega⟩,wr (by omega)]
      refine⟨_,rfl,⟨t+1,rfl,hc,Ls++[i::L'], ?_,by simp;omega,fun u hu=> ?_⟩,by dsimp only;omega⟩
      · dsimp only;rw [List.map_append,hW,hL1];rfl
      · by_cases hut:u<t
        · rw [Ab (by omega)];exact hall u hut
        · have:u=Ls.length:=by omega
          subst this
          rw [O8]
          exact⟨i,L',rfl,by rw [hlen];exact e,⟨by rw [<-e];exact hm,hL3⟩,hL2⟩
    · rw [ji (by omega),bu]
      have:t=K:=by omega
      subst this
      exact⟨_,rfl,out,rfl,Ls,hW,hlen,hall⟩) FUEL ([],0) ⟨0,rfl,Nat.zero_le _,[],rfl,rfl,fun _ h=>(by omega)⟩ (fuel_lt (by dsimp only;omega))
  refine⟨W,Ls, ?_,hW⟩
  unfold dS
  rw [hr];rfl
omit hM in
theorem Q5 {ps:List Part} (W:List (List Part)) (Ls:List (List Nat)) (hW:E5 P K ps e1 W Ls) (hin: ∀i j,i<P->j<P->at' ps i=at' ps j->i=j):W.flatten.Nodup/\W.flatten.length<=P+2:=by
  obtain⟨hW,hl,hall⟩:=hW
  have hI:=FL.ind g nb fl
  have hs:=KD g nb fl
  have hn:=g.n1 (-1)
  have hfl:Ls.flatten.Nodup:=by
    unfold List.Nodup
    rw [List.pairwise_flatten]
    refine⟨fun L hL=> ?_, ?_⟩
    · obtain⟨t,ht,e⟩:=dX hL
      obtain⟨x,L',_,_,hc,_⟩:=hall t (by omega)
      rw [<-e];exact Mw hI hc
    · rw [eK]
      intro a b ha hb hab
      rw [<-bZ ha,<-bZ hb]
      obtain⟨x,L',e1',e2,hc,_⟩:=hall a (by omega)
      obtain⟨y,L'',f1,f2,hd,_⟩:=hall b (by omega)
      refine Uv hI hc hd fun e=> ?_
      rw [e1',f1,CQ,CQ]at e
      unfold List.Nodup at hn
      rw [eK]at hn
      refine hn a b (by omega) (by omega) hab ?_
      rw [<-bZ (by omega),<-bZ (by omega),e2,f2,e]
  have hlt: ∀i∈Ls.flatten,i<P:=fun i hi=>by
    obtain⟨L,hL,hi⟩:=List.mem_flatten.1 hi
    obtain⟨t,ht,e⟩:=dX hL
    obtain⟨x,L',_,_,_,h⟩:=hall t (by omega)
    rw [<-e]at hi
    exact h i hi
  have e:W.flatten=Ls.flatten.map (at' ps):=by rw [hW,List.map_flatten]
  rw [e]
  refine⟨?_, ?_⟩
  · unfold List.Nodup
    rw [List.pairwise_map]
    refine List.Pairwise.imp_of_mem ?_ hfl
    intro a b ha hb hne e
    exact hne (hin a b (hlt a ha) (hlt b hb) e)
  · rw [dt]
    have hm:(Ls.flatten.map fun i:Nat=>(i:Int)).Nodup:=by
      unfold List.Nodup
      rw [List.pairwise_map]
      exact List.Pairwise.imp (fun h e=>h (Int.ofNat_inj.1 e)) hfl
    have:=D7 (P+2) _ hm fun x hx=>by
      obtain⟨i,hi,rfl⟩:=List.mem_map.1 hx
      have:=hlt i hi
      omega
    rwa [dt]at this
end
inductive PW (p:ah) (s:State) (k:Nat):Nat->List Part->Prop where
 |fin {b t:Nat}:t<2->fd p k t=(b:Int)->PW p s k b []
 |step {b m w:Nat} {l:List Part}:m<p.ae.length->dD p s m=true->((at' p.ae m).a=(b:Int)/\(at' p.ae m).b=(w:Int)\/(at' p.ae m).b=(b:Int)/\(at' p.ae m).a=(w:Int))->
   PW p s k w l->PW p s k b (⟨3,(m:Int)⟩::⟨1,(w:Int)⟩::l)
def Way (p:ah) (s:State) (k:Nat) (l:List Part):Prop:=
 ∃(j b:Nat) (l':List Part),l=⟨2,(j:Int)⟩::⟨1,(b:Int)⟩::l'/\j<p.aa.length/\bY p s j=true/\(at' p.aa j).bus=(b:Int)/\PW p s k b l'/\l.Nodup
section
variable {p:ah} {s:State} (hp:VP p) {k:Nat} (hk:k<p.a_.length) {e0 e1:List (Int × List Int)} (g:GI (2*(partsOf p).length+2) (fun u v=>(u,v)∈aG p s k) e0 e1)
include hp hk g
theorem XO: ∀(L:List Nat) (b:Nat),b<p.ap.toNat->Oj e1 (2*(b:Int)+1) L->b ∉ L->L.Nodup->PW p s k b (L.map (at' (partsOf p)))
 |[],b,hb,hc,_,_=>by
  have h:=(g.base _ _).2 (.inr hc)
  rcases jZ hp hk h with⟨i,hi,h1,h2⟩|⟨j,hj,hf,⟨h1,h2⟩|⟨h1,h2⟩⟩|⟨i,hi,hcb,w,hw,h⟩|⟨t,ht,h0,hbd,h1,h2⟩
  ·omega
  ·omega
  ·have:=(hp.src j hj).bus;omega
  ·have l2:=hp.lnk i hi;have a2:=l2.a;have b2:=l2.b
   have hx:=oW hp i
   rcases hw with rfl|rfl<;>rcases h with h|h<;>omega
  ·exact .fin ht (by omega)
 |[i],b,hb,hc,_,_=>by
  have hbb:=hp.b
  have h:=(g.base _ _).2 (.inr hc.1)
  have h':=(g.base _ _).2 (.inr hc.2)
  rcases jZ hp hk h with⟨i,hi,h1,h2⟩|⟨j,hj,hf,⟨h1,h2⟩|⟨h1,h2⟩⟩|⟨m,hm,hcb,w,hw,h⟩|⟨t,ht,h0,hbd,h1,h2⟩
  ·omega
  ·omega
  ·omega
  ·have l2:=hp.lnk m hm;have a2:=l2.a;have b2:=l2.b
   have hx:=oW hp m
   have hi:i=p.ap.toNat+p.aa.length+m:=by rcases hw with rfl|rfl<;>rcases h with h|h<;>omega
   rcases jZ hp hk h' with⟨i,hi,h1,h2⟩|⟨j,hj,hf,⟨h1,h2⟩|⟨h1,h2⟩⟩|⟨n,hn,hcb,w',hw',h'⟩|⟨t,ht,h0,hbd,h1,h2⟩
   ·omega
   ·omega
   ·have:=(hp.src j hj).bus;omega
   ·have l2:=hp.lnk n hn;have a2:=l2.a;have b2:=l2.b
    have hx:=oW hp n
    rcases hw' with rfl|rfl<;>rcases h' with h'|h'<;>omega
   ·have:=wo hp hk ht;omega
  ·omega
 |i::j::L,b,hb,hc,hbn,hnd=>by
  have hbb:=hp.b
  have h:=(g.base _ _).2 (.inr hc.1)
  have h':=(g.base _ _).2 (.inr hc.2.1)
  have hbj:b≠j:=fun e=>hbn (by rw [e];exact ct _ cw)
  rw [cC,cC]at hnd
  rcases jZ hp hk h with⟨i,hi,h1,h2⟩|⟨j,hj,hf,⟨h1,h2⟩|⟨h1,h2⟩⟩|⟨m,hm,hcb,w,hw,h⟩|⟨t,ht,h0,hbd,h1,h2⟩
  ·omega
  ·omega
  ·omega
  ·have l2:=hp.lnk m hm;have a2:=l2.a;have b2:=l2.b
   have hx:=oW hp m
   have hi:i=p.ap.toNat+p.aa.length+m/\w=(b:Int):=by rcases hw with rfl|rfl<;>rcases h with h|h<;>omega
   obtain⟨hi,hwb⟩:=hi
   rcases jZ hp hk h' with⟨i,hi,h1,h2⟩|⟨q,hq,hf,⟨h1,h2⟩|⟨h1,h2⟩⟩|⟨n,hn,hcb',w',hw',h'⟩|⟨t,ht,h0,hbd,h1,h2⟩
   ·omega
   ·omega
   ·have:=(hp.src q hq).bus;omega
   ·have l3:=hp.lnk n hn;have a3:=l3.a;have b3:=l3.b
    have hy:=oW hp n
    have hn':n=m/\w'=(j:Int):=by rcases hw' with rfl|rfl<;>rcases h' with h'|h'<;>omega
    obtain⟨rfl,hwj⟩:=hn'
    have hjb:j<p.ap.toNat:=by rcases hw' with rfl|rfl<;>omega
    have ih:=XO L j hjb hc.2.2 hnd.2.1 hnd.2.2
    show PW p s k b (at' (partsOf p) i::at' (partsOf p) j::L.map (at' (partsOf p)))
    rw [hi,pE hm,mY hjb]
    refine .step hm hcb ?_ ih
    rcases hw with rfl|rfl<;>rcases hw' with rfl|rfl
    ·omega
    ·exact .inl ⟨hwb,hwj⟩
    ·exact .inr ⟨hwb,hwj⟩
    ·omega
   ·omega
  ·omega
theorem Yq (nb:NB (partsOf p).length (fun u v=>(u,v)∈aG p s k)) {K:Nat} (fl:FL K e1) {L:List Nat} (hc:Oj e1 (-1) L) (hlt: ∀i∈L,i<(partsOf p).length):Way p s k (L.map (at' (partsOf p))):=by
 have hbb:=hp.b
 have hP:=bE (p:=p)
 have hnd:=Mw (FL.ind g nb fl) hc
 have hmn:(L.map (at' (partsOf p))).Nodup:=by
  unfold List.Nodup
  rw [List.pairwise_map]
  exact List.Pairwise.imp_of_mem (fun ha hb hne e=>hne (yS (hlt _ ha) (hlt _ hb) e)) hnd
 match L,hc,hnd,hlt,hmn with
 |[],hc,_,_,_=>
  have h:=(g.base _ _).2 (.inr hc)
  rcases jZ hp hk h with⟨i,hi,h1,h2⟩|⟨j,hj,hf,⟨h1,h2⟩|⟨h1,h2⟩⟩|⟨m,hm,hcb,w,hw,h⟩|⟨t,ht,h0,hbd,h1,h2⟩
  ·omega
  ·omega
  ·omega
  ·have l2:=hp.lnk m hm;have a2:=l2.a;have b2:=l2.b
   have hx:=oW hp m
   rcases hw with rfl|rfl<;>rcases h with h|h<;>omega
  ·have:=wo hp hk ht;omega
 |x::L',hc,hnd,hlt,hmn=>
  have h:=(g.base _ _).2 (.inr hc.1)
  have hx: ∃j,j<p.aa.length/\bY p s j=true/\x=p.ap.toNat+j:=by
   rcases jZ hp hk h with⟨i,hi,h1,h2⟩|⟨j,hj,hf,⟨h1,h2⟩|⟨h1,h2⟩⟩|⟨m,hm,hcb,w,hw,h⟩|⟨t,ht,h0,hbd,h1,h2⟩
   ·omega
   ·exact⟨j,hj,hf,by omega⟩
   ·omega
   ·have l2:=hp.lnk m hm;have a2:=l2.a;have b2:=l2.b
    have hx:=oW hp m
    rcases hw with rfl|rfl<;>rcases h with h|h<;>omega
   ·have:=wo hp hk ht;omega
  obtain⟨j,hj,hf,rfl⟩:=hx
  match L',hc,hnd,hlt,hmn with
  |[],hc,_,_,_=>
   have h:=(g.base _ _).2 (.inr hc.2)
   rcases jZ hp hk h with⟨i,hi,h1,h2⟩|⟨q,hq,hf,⟨h1,h2⟩|⟨h1,h2⟩⟩|⟨m,hm,hcb,w,hw,h⟩|⟨t,ht,h0,hbd,h1,h2⟩
   ·omega
   ·omega
   ·have:=(hp.src q hq).bus;omega
   ·have l2:=hp.lnk m hm;have a2:=l2.a;have b2:=l2.b
    have hx:=oW hp m
    rcases hw with rfl|rfl<;>rcases h with h|h<;>omega
   ·have:=wo hp hk ht;omega
  |b::L,hc,hnd,hlt,hmn=>
   have h:=(g.base _ _).2 (.inr hc.2.1)
   have hb:(at' p.aa j).bus=(b:Int):=by
    rcases jZ hp hk h with⟨i,hi,h1,h2⟩|⟨q,hq,hf,⟨h1,h2⟩|⟨h1,h2⟩⟩|⟨m,hm,hcb,w,hw,h⟩|⟨t,ht,h0,hbd,h1,h2⟩
    ·omega
    ·omega
    ·have:q=j:=by omega
     subst this;omega
    ·have l2:=hp.lnk m hm;have a2:=l2.a;have b2:=l2.b
     have hx:=oW hp m
     rcases hw with rfl|rfl<;>rcases h with h|h<;>omega
    ·have:=wo hp hk ht;omega
   have hbr:=(hp.src j hj).bus
   rw [cC,cC]at hnd
   have hpw:=XO hp hk g L b (by omega) hc.2.2 hnd.2.1 hnd.2.2
   refine⟨j,b,L.map (at' (partsOf p)), ?_,hj,hf,hb,hpw,hmn⟩
   show at' (partsOf p) _::at' (partsOf p) b::_=_
   rw [pF hj,mY (by omega)]
end
section
variable {p:ah} {s:State} (hp:VP p) (hs:VS p s) {k:Nat} (hk:k<p.a_.length)
include hp hs
theorem zf {x:Part} (hx:kr p x) {b:Nat} (hne:(⟨1,(b:Int)⟩:Part)≠x) (h:at' s.al b=false):at' (aU s x true).al b=false:=by
 obtain⟨c,j⟩:=x
 have h0:0<=j:=hx.1
 unfold aU
 dsimp only
 split
 ·rename_i e
  dsimp only
  rw [bg (fun q=>hne (by rw [e];congr 1;omega))];exact h
 ·split<;>exact h
theorem Q8 {x:Part} (hx:kr p x) {j b:Nat} (hj:j<p.aa.length) (hb:(at' p.aa j).bus=(b:Int)) (h1:(⟨2,(j:Int)⟩:Part)≠x) (h2:(⟨1,(b:Int)⟩:Part)≠x) (h:bY p s j=true):bY p (aU s x true) j=true:=by
 unfold bY at h ⊢
 simp only [ce,dd]at h ⊢
 obtain⟨⟨q1,q2⟩,q3⟩:=h
 rw [hb,bw]at q3 ⊢
 refine⟨⟨?_, ?_⟩,zf hp hs hx h2 q3⟩
 ·unfold aU;split
  ·exact q1
  ·split<;>exact q1
 ·obtain⟨c,i⟩:=x
  have h0:0<=i:=hx.1
  unfold aU
  dsimp only
  split
  ·exact q2
  ·split
   ·rename_i e
    dsimp only
    rw [bg (fun q=>h1 (by rw [e];congr 1;omega))];exact q2
   ·exact q2
theorem QZ {x:Part} (hx:kr p x) {m b w:Nat} (hm:m<p.ae.length) (hl:(at' p.ae m).a=(b:Int)/\(at' p.ae m).b=(w:Int)\/(at' p.ae m).b=(b:Int)/\(at' p.ae m).a=(w:Int)) (h1:(⟨3,(m:Int)⟩:Part)≠x) (h2:(⟨1,(b:Int)⟩:Part)≠x) (h3:(⟨1,(w:Int)⟩:Part)≠x)
  (h:dD p s m=true):dD p (aU s x true) m=true:=by
 unfold dD at h ⊢
 simp only [ce,dd]at h ⊢
 obtain⟨⟨⟨q1,q2⟩,q3⟩,q4⟩:=h
 refine⟨⟨⟨?_, ?_⟩, ?_⟩, ?_⟩
 ·unfold aU;split
  ·exact q1
  ·split<;>exact q1
 ·obtain⟨c,i⟩:=x
  have h0:0<=i:=hx.1
  have hc:=hx.2
  dsimp only at hc
  unfold aU
  dsimp only
  split
  ·exact q2
  ·split
   ·exact q2
   ·dsimp only
    rw [bg (fun q=>h1 (by rw [show c=3 by omega];congr 1;omega))];exact q2
 ·rcases hl with⟨e,f⟩|⟨e,f⟩
  ·rw [e,bw]at q3 ⊢;exact zf hp hs hx h2 q3
  ·rw [f,bw]at q3 ⊢;exact zf hp hs hx h3 q3
 ·rcases hl with⟨e,f⟩|⟨e,f⟩
  ·rw [f,bw]at q4 ⊢;exact zf hp hs hx h3 q4
  ·rw [e,bw]at q4 ⊢;exact zf hp hs hx h2 q4
omit hs in
theorem T9 {m w:Nat} (hw:(at' p.ae m).a=(w:Int)\/(at' p.ae m).b=(w:Int)) (h:dD p s m=true):at' s.al w=false:=by
 unfold dD at h
 simp only [ce,dd]at h
 obtain⟨⟨⟨q1,q2⟩,q3⟩,q4⟩:=h
 rcases hw with e|e
 ·rw [e,bw]at q3;exact q3
 ·rw [e,bw]at q4;exact q4
theorem WE {x:Part} (hx:kr p x) {b:Nat} {l:List Part} (h:PW p s k b l):(⟨1,(b:Int)⟩:Part)≠x->x ∉ l->PW p (aU s x true) k b l:=by
 induction h with
 |fin h1 h2=>exact fun _ _=> .fin h1 h2
 |step h1 h2 h3 h4 ih=>
  intro hb hn
  rename_i b m w l
  have n1:(⟨3,(m:Int)⟩:Part)≠x:=fun e=>hn (by rw [<-e];exact cw)
  have n2:(⟨1,(w:Int)⟩:Part)≠x:=fun e=>hn (by rw [<-e];exact ct _ cw)
  exact .step h1 (QZ hp hs hx h1 h3 n1 hb n2 h2) h3 (ih n2 fun q=>hn (ct _ (ct _ q)))
omit hs in
theorem Xz {b:Nat} {l:List Part} (h:PW p s k b l):at' s.al b=false-> ∀{j:Nat} {lw:List Int},j<p.aa.length->bY p s j=true->Wk p s (at' p.aa j).bus.toNat lw b->Fd p s k:=by
 induction h with
 |fin h1 h2=>
  intro hb j lw hj hf wk
  rename_i b t
  exact⟨t,h1,by omega,by rw [h2,bw];exact⟨hb,j,hj,hf,lw,wk⟩⟩
 |step h1 h2 h3 h4 ih=>
  intro hb j lw hj hf wk
  rename_i b m w l
  refine ih (T9 hp (h3.elim (fun h=> .inr h.2) (fun h=> .inl h.2)) h2) hj hf (.snoc wk h1 h2 ?_)
  rcases h3 with⟨e,f⟩|⟨e,f⟩
  ·exact .inl ⟨by rw [e,bw],by rw [f,bw]⟩
  ·exact .inr ⟨by rw [e,bw],by rw [f,bw]⟩
include hk
end
theorem BP (φ:Int->Int) (a:Int) {b:Int}: ∀{l:List Int},b∈l->oM φ a (l.erase b)+(φ a - φ b)=oM φ a l
 |[],h=>by cases h
 |c::l,h=>by
  rw [List.erase_cons]
  by_cases e:c=b
  ·subst e;simp [oM];omega
  ·have hm:b∈l:=(eA.1 h).elim (fun q=>absurd q.symm e) id
   have:=BP φ a hm
   simp only [beq_iff_eq,e,if_false,oM];omega
theorem Pq {φ:Int->Int} {a:Int}: ∀{l:List Int},(∀b∈l,φ b<=φ a)->0<=oM φ a l
 |[],_=>eE 0
 |b::l,h=>by
  have:=h b cw
  have:=Pq fun x hx=>h x (ct b hx)
  rw [oM];omega
theorem Pz {φ:Int->Int}: ∀{m:List (Int × List Int)},(∀x∈m,0<=oM φ x.1 x.2)->0<=Cv φ m
 |[],_=>eE 0
 |(a,l)::m,h=>by
  have h1:=h _ cw
  have h2:=Pz fun x hx=>h x (ct (a,l) hx)
  dsimp only at h1
  rw [Cv];omega
theorem QU {φ:Int->Int} {e1:List (Int × List Int)} (hk:(e1.map (·.1)).Nodup) (hn: ∀u,(aC u e1).Nodup) (hm: ∀u v,v∈aC u e1->φ v<=φ u) (hs:Cv φ e1<=1) {a b c d:Int} (h1:b∈aC a e1) (h2:d∈aC c e1) (l1:φ a=φ b+1) (l2:φ c=φ d+1):a=c/\b=d:=by
 refine cP fun hne=> ?_
 have hne:a≠c\/b≠d:=by
  by_cases e:a=c
  ·exact .inr fun q=>hne ⟨e,q⟩
  ·exact .inl e
 have k1:=wO a ((aC a e1).erase b) e1 hk
 have s1:=y9 φ a ((aC a e1).erase b) e1
 have r1:=BP φ a h1
 have h2':d∈aC c (eU a ((aC a e1).erase b) e1):=by
  rw [dY]
  split
  ·rename_i e
   subst e
   rw [(hn _).mem_erase_iff]
   exact⟨fun q=>hne.elim (fun z=>z rfl) fun z=>z q.symm,h2⟩
  ·exact h2
 have k2:=wO c ((aC c (eU a ((aC a e1).erase b) e1)).erase d) _ k1.1
 have s2:=y9 φ c ((aC c (eU a ((aC a e1).erase b) e1)).erase d) (eU a ((aC a e1).erase b) e1)
 have r2:=BP φ c h2'
 have sub: ∀u v,v∈aC u (eU c ((aC c (eU a ((aC a e1).erase b) e1)).erase d) (eU a ((aC a e1).erase b) e1))->v∈aC u e1:=fun u v h=>by
  have g1: ∀u v,v∈aC u (eU a ((aC a e1).erase b) e1)->v∈aC u e1:=fun u v h=>by
   rw [dY]at h
   split at h
   ·rename_i e;subst e;exact List.mem_of_mem_erase h
   ·exact h
  rw [dY]at h
  split at h
  ·rename_i e;subst e;exact g1 _ _ (List.mem_of_mem_erase h)
  ·exact g1 _ _ h
 have:=Pz (φ:=φ) (m:=eU c ((aC c (eU a ((aC a e1).erase b) e1)).erase d) (eU a ((aC a e1).erase b) e1)) fun x hx=>by
  refine Pq fun v hv=> ?_
  rw [<-qP k2.1 hx]at hv
  exact hm _ _ (sub _ _ hv)
 omega
section
variable {p:ah} {s:State} (hp:VP p) (hs:VS p s)
include hp hs
omit hs in
theorem Kl {l:List Bool} {i q:Nat} (hi:i<l.length) (h:at' (l.set i true) q=false):q≠i:=fun e=>by
 subst e;rw [bT hi]at h;cases h
theorem Ke {ix:Nat} (hix:ix<(partsOf p).length) {b:Nat} (hb:b<p.ap.toNat) (h:at' (aU s (at' (partsOf p) ix) true).al b=false):b≠ix/\at' s.al b=false:=by
 have h7:=hs.al
 have hP:=bE (p:=p)
 by_cases h1:ix<p.ap.toNat
 ·rw [mY h1]at h
  unfold aU at h
  rw [cj rfl]at h
  dsimp only at h
  rw [bw]at h
  exact⟨Kl hp (by omega) h,Zk _ _ _ h⟩
 ·refine⟨by omega, ?_⟩
  by_cases h2:ix<p.ap.toNat+p.aa.length
  ·have e:=pF (p:=p) (k:=ix - p.ap.toNat) (by omega)
   rw [show p.ap.toNat+(ix - p.ap.toNat)=ix by omega]at e
   rw [e]at h
   exact h
  ·have e:=pE (p:=p) (i:=ix - (p.ap.toNat+p.aa.length)) (by omega)
   rw [show p.ap.toNat+p.aa.length+(ix - (p.ap.toNat+p.aa.length))=ix by omega]at e
   rw [e]at h
   exact h
theorem VU {ix:Nat} (hix:ix<(partsOf p).length) {j:Nat} (hj:j<p.aa.length) (h:bY p (aU s (at' (partsOf p) ix) true) j=true):bY p s j=true/\p.ap.toNat+j≠ix/\(at' p.aa j).bus.toNat≠ix:=by
 have hbu:=(hp.src j hj).bus
 have h5:=hs.ag
 have hP:=bE (p:=p)
 unfold bY at h ⊢
 simp only [ce,dd]at h ⊢
 obtain⟨⟨q1,q2⟩,q3⟩:=h
 obtain⟨r1,r2⟩:=Ke hp hs hix (by omega) q3
 have q1':at' s.on_ j=true:=by
  revert q1;unfold aU;split
  ·exact id
  ·split<;>exact id
 by_cases h1:ix<p.ap.toNat
 ·rw [mY h1]at q2
  exact⟨⟨⟨q1',q2⟩,r2⟩,by omega,r1⟩
 ·by_cases h2:ix<p.ap.toNat+p.aa.length
  ·have e:=pF (p:=p) (k:=ix - p.ap.toNat) (by omega)
   rw [show p.ap.toNat+(ix - p.ap.toNat)=ix by omega]at e
   rw [e]at q2
   unfold aU at q2
   rw [ci (show ¬ (2:Int)=1 by decide),cj rfl]at q2
   dsimp only at q2
   rw [bw]at q2
   have:=Kl hp (by omega) q2
   exact⟨⟨⟨q1',Zk _ _ _ q2⟩,r2⟩,by omega,r1⟩
  ·have e:=pE (p:=p) (i:=ix - (p.ap.toNat+p.aa.length)) (by omega)
   rw [show p.ap.toNat+p.aa.length+(ix - (p.ap.toNat+p.aa.length))=ix by omega]at e
   rw [e]at q2
   exact⟨⟨⟨q1',q2⟩,r2⟩,by omega,r1⟩
theorem VZ {ix:Nat} (hix:ix<(partsOf p).length) {m:Nat} (hm:m<p.ae.length) (h:dD p (aU s (at' (partsOf p) ix) true) m=true):dD p s m=true/\p.ap.toNat+p.aa.length+m≠ix/\(at' p.ae m).a.toNat≠ix/\(at' p.ae m).b.toNat≠ix:=by
 have l2:=hp.lnk m hm;have a2:=l2.a;have b2:=l2.b
 have h3:=hs.am
 have hP:=bE (p:=p)
 unfold dD at h ⊢
 simp only [ce,dd]at h ⊢
 obtain⟨⟨⟨q1,q2⟩,q3⟩,q4⟩:=h
 obtain⟨r1,r2⟩:=Ke hp hs hix (by omega) q3
 obtain⟨t1,t2⟩:=Ke hp hs hix (by omega) q4
 have q1':at' s.aq m=true:=by
  revert q1;unfold aU;split
  ·exact id
  ·split<;>exact id
 by_cases h1:ix<p.ap.toNat
 ·rw [mY h1]at q2
  exact⟨⟨⟨⟨q1',q2⟩,r2⟩,t2⟩,by omega,r1,t1⟩
 ·by_cases h2:ix<p.ap.toNat+p.aa.length
  ·have e:=pF (p:=p) (k:=ix - p.ap.toNat) (by omega)
   rw [show p.ap.toNat+(ix - p.ap.toNat)=ix by omega]at e
   rw [e]at q2
   exact⟨⟨⟨⟨q1',q2⟩,r2⟩,t2⟩,by omega,r1,t1⟩
  ·have e:=pE (p:=p) (i:=ix - (p.ap.toNat+p.aa.length)) (by omega)
   rw [show p.ap.toNat+p.aa.length+(ix - (p.ap.toNat+p.aa.length))=ix by omega]at e
   rw [e]at q2
   unfold aU at q2
   rw [ci (show ¬ (3:Int)=1 by decide),ci (show ¬ (3:Int)=2 by decide)]at q2
   dsimp only at q2
   rw [bw]at q2
   have:=Kl hp (by omega) q2
   exact⟨⟨⟨⟨q1',Zk _ _ _ q2⟩,r2⟩,t2⟩,by omega,r1,t1⟩
end
theorem Fx {l:List Bool} {i:Nat} (h:at' l i=true):l.set i true=l:=by
 by_cases hi:i<l.length
 ·have:l[i]=true:=by rw [<-bZ hi];exact h
  rw [<-this,List.set_getElem_self]
 ·exact List.set_eq_of_length_le (by omega)
theorem KL {s:State} {x:Part} (h:sJ s x=true):aU s x true=s:=by
 unfold sJ at h
 unfold aU
 split
 ·rename_i e;rw [cj e]at h;rw [Fx h]
 ·rename_i e;rw [ci e]at h
  split
  ·rename_i e;rw [cj e]at h;rw [Fx h]
  ·rename_i e;rw [ci e]at h;rw [Fx h]
section
variable {p:ah} {s:State} (hp:VP p) (hs:VS p s) {k:Nat} (hk:k<p.a_.length)
include hp hs hk
theorem WU {e0 e1:List (Int × List Int)} (g:GI (2*(partsOf p).length+2) (fun u v=>(u,v)∈aG p s k) e0 e1) (fl:FL 1 e1) (hc:CLO e0 e1) (hfed:Fd p s k): ∃x,x∈vo p s k:=by
 have hb:=hp.b
 have hP:=bE (p:=p)
 obtain⟨V,v1,v2,v3⟩:=hc
 have out: ∀u w,(u,w)∈aG p s k->V u=true->V w=false->w∈aC u e1:=fun u w hm hu hw=>by
  rcases(g.base u w).1 hm with h|h
  ·rw [v3 u w hu (.inl h)]at hw;cases hw
  ·exact h
 have inn: ∀u w,w∈aC u e1->V w=true->V u=true:=fun u w hm hw=>by
  by_cases h1:u= -1
  ·rw [h1];exact v1
  ·exact v3 w u hw (.inr ⟨hm,h1⟩)
 have hsum:Cv (fun u=>if V u=true then 1 else 0) e1=1:=by
  rw [fl];rw [cj v1,v2,ci (by decide)];decide
 have mono: ∀u v,v∈aC u e1->(if V v=true then(1:Int)else 0)<=if V u=true then 1 else 0:=fun u v h=>by
  by_cases hv:V v=true
  ·rw [cj hv,cj (inn u v h hv)];exact eE _
  ·rw [ci hv];split<;>decide
 have uniq: ∀a b c d,(a,b)∈aG p s k->V a=true->V b=false->(c,d)∈aG p s k->V c=true->V d=false->a=c/\b=d:=fun a b c d h1 h2 h3 h4 h5 h6=>
  QU (φ:=fun u=>if V u=true then 1 else 0) g.keys g.n1 mono (by rw [hsum];decide) (out a b h1 h2 h3) (out c d h4 h5 h6) (by rw [cj h2,h3,ci (by decide)];decide) (by rw [cj h5,h6,ci (by decide)];decide)
 have mp: ∀i,i<(partsOf p).length->((2*(i:Int),2*(i:Int)+1)∈aG p s k):=fun i hi=>by
  unfold aG
  rw [cA,cA,cA]
  exact .inl (.inl (.inl (cu.2 ⟨i,hi,by simp [Dv]⟩)))
 have ms: ∀j x,j<p.aa.length->x∈rY p s j->x∈aG p s k:=fun j x hj hx=>by
  unfold aG
  rw [cA,cA,cA]
  exact .inl (.inl (.inr (cu.2 ⟨j,hj,hx⟩)))
 have ml: ∀j x,j<p.ae.length->x∈pG p s j->x∈aG p s k:=fun j x hj hx=>by
  unfold aG
  rw [cA,cA,cA]
  exact .inl (.inr (cu.2 ⟨j,hj,hx⟩))
 have dark: ∀ix,ix<(partsOf p).length->(∀u w,(u,w)∈aG p s k->V u=true->u≠2*(ix:Int)->u≠2*(ix:Int)+1->w≠2*(ix:Int)->V w=true)-> ∃x,x∈vo p s k:=fun ix hix st=>by
  have hi:kr p (at' (partsOf p) ix):=xX hp (at_mem hix)
  have hun: ¬ Fd p (aU s (at' (partsOf p) ix) true) k:=by
   rintro ⟨t,ht,h0,hbd,j,hj,hf,l,wk⟩
   have hbu:=(hp.src j hj).bus
   obtain⟨f1,f2,f3⟩:=VU hp hs hix hj hf
   have hS:rY p s j=[(-1,2*((p.ap.toNat+j:Nat):Int)),(2*((p.ap.toNat+j:Nat):Int)+1,2*(at' p.aa j).bus)]:=by unfold rY;rw [cj f1]
   have a1:=st _ _ (ms j (-1,2*((p.ap.toNat+j:Nat):Int)) hj (by rw [hS];exact cw)) v1 (by omega) (by omega) (by omega)
   have a2:=st _ _ (mp (p.ap.toNat+j) (by omega)) a1 (by omega) (by omega) (by omega)
   have a3:=st _ _ (ms j (2*((p.ap.toNat+j:Nat):Int)+1,2*(at' p.aa j).bus) hj (by rw [hS];exact ct _ cw)) a2 (by omega) (by omega) (by omega)
   have walk: ∀l (b:Nat),Wk p (aU s (at' (partsOf p) ix) true) (at' p.aa j).bus.toNat l b->b<p.ap.toNat/\b≠ix/\V (2*(b:Int)+1)=true:=fun l b wk=>by
    induction wk with
    |nil=>
     refine⟨by omega,f3,st _ _ (mp _ (by omega)) ?_ (by omega) (by omega) (by omega)⟩
     rw [show(((at' p.aa j).bus.toNat:Nat):Int)=(at' p.aa j).bus by omega];exact a3
    |snoc wk' hi hc he ih=>
     rename_i l' x y i
     obtain⟨ih1,ih2,ih3⟩:=ih
     have l2:=hp.lnk i hi;have la:=l2.a;have lb:=l2.b
     have hx:=oW hp i
     obtain⟨c1,c2,c3,c4⟩:=VZ hp hs hix hi hc
     have hL:pG p s i=[(2*(at' p.ae i).a+1,2*lx p i),(2*lx p i+1,2*(at' p.ae i).a),(2*(at' p.ae i).b+1,2*lx p i),(2*lx p i+1,2*(at' p.ae i).b)]:=by unfold pG;rw [cj c1]
     have go: ∀q r:Int,q=(x:Int)->r=(y:Int)->r<p.ap->y≠ix->(2*q+1,2*lx p i)∈pG p s i->(2*lx p i+1,2*r)∈pG p s i->y<p.ap.toNat/\y≠ix/\V (2*(y:Int)+1)=true:=fun q r e1 e2 hr hy m1 m2=>by
      subst e1 e2
      have b1:=st _ _ (ml i _ hi m1) ih3 (by omega) (by omega) (by omega)
      have b2:=st _ _ (mp (p.ap.toNat+p.aa.length+i) (by omega)) b1 (by omega) (by omega) (by omega)
      have b3:=st _ _ (ml i _ hi m2) b2 (by omega) (by omega) (by omega)
      exact⟨by omega,hy,st _ _ (mp y (by omega)) b3 (by omega) (by omega) (by omega)⟩
     rcases he with⟨e1,e2⟩|⟨e1,e2⟩
     ·exact go (at' p.ae i).a (at' p.ae i).b (by omega) (by omega) lb.2 (by omega) (by rw [hL];simp) (by rw [hL];simp)
     ·exact go (at' p.ae i).b (at' p.ae i).a (by omega) (by omega) la.2 (by omega) (by rw [hL];simp) (by rw [hL];simp)
   have hfr:=wo hp hk ht
   obtain⟨w1,w2,w3⟩:=walk l _ wk
   obtain⟨_,hbd'⟩:=Ke hp hs hix w1 hbd
   have:=st (2*fd p k t+1) (-2) (by
    unfold aG
    rw [cA]
    exact .inr (cu.2 ⟨t,ht,by unfold uD;rw [cj ⟨h0,hbd'⟩];simp⟩)) (by rw [show(((fd p k t).toNat:Nat):Int)=fd p k t by omega]at w3;exact w3) (by omega) (by omega) (by omega)
   rw [v2]at this;cases this
  refine⟨at' (partsOf p) ix,db.2 ⟨db.2 ⟨at_mem hix, ?_⟩, ?_⟩⟩
  ·cases hbp:sJ s (at' (partsOf p) ix)with
   |false=>rfl
   |true=>exact absurd (by rw [KL hbp];exact hfed) hun
  ·cases hf:rQ p (aU s (at' (partsOf p) ix) true) k with
   |false=>rfl
   |true=>exact absurd ((xL hp (VS.aU hs _ true) hk).1 hf) hun
 by_cases hex: ∃a b,(a,b)∈aG p s k/\V a=true/\V b=false
 ·obtain⟨a,b,hm,ha,hbv⟩:=hex
  have fin: ∀ix,ix<(partsOf p).length->(a=2*(ix:Int)\/a=2*(ix:Int)+1\/b=2*(ix:Int))-> ∃x,x∈vo p s k:=fun ix hix ht=>dark ix hix fun u w h1 h2 h3 h4 h5=>by
   cases hw:V w with
   |true=>rfl
   |false=>obtain⟨e1,e2⟩:=uniq a b u w hm ha hbv h1 h2 hw;omega
  rcases jZ hp hk hm with⟨i,hi,h1,h2⟩|⟨j,hj,hf,⟨h1,h2⟩|⟨h1,h2⟩⟩|⟨i,hi,hcb,w,hw,h⟩|⟨t,ht,h0,hbd,h1,h2⟩
  ·exact fin i hi (.inl h1)
  ·exact fin (p.ap.toNat+j) (by omega) (.inr (.inr h2))
  ·exact fin (p.ap.toNat+j) (by omega) (.inr (.inl h1))
  ·have l2:=hp.lnk i hi;have la:=l2.a;have lb:=l2.b
   have hx:=oW hp i
   rcases h with⟨h1,h2⟩|⟨h1,h2⟩
   ·exact fin (p.ap.toNat+p.aa.length+i) (by omega) (.inr (.inr (by omega)))
   ·exact fin (p.ap.toNat+p.aa.length+i) (by omega) (.inr (.inl (by omega)))
  ·have:=wo hp hk ht
   exact fin (fd p k t).toNat (by omega) (.inr (.inl (by omega)))
 ·have:Cv (fun u=>if V u=true then 1 else 0) e1<=0:=Fe fun x hx=>Ca fun v hv=>by
   rw [<-qP g.keys hx]at hv
   by_cases hu:V x.1=true
   ·cases hw:V v with
    |true=>rw [cj hu,cj rfl];exact eE _
    |false=>exact absurd ⟨x.1,v,(g.base _ _).2 (.inr hv),hu,hw⟩ hex
   ·rw [ci hu];split<;>decide
  omega
theorem KE: ∃(K:Nat) (W:List (List Part)),jv p s (k:Int)=some (W,0)/\W.length=K/\K<=2/\(K=0↔rQ p s k=false)/\(K=1->vo p s k≠[])/\(K=2-> ∀x,kr p x->rQ p (aU s x true) k=true)/\(∀l∈W,Way p s k l)/\W.flatten.Nodup/\W.flatten.length<=1000:=by
 have hP:=bE (p:=p);have hb:=hp.b;have hsl:=hp.sl;have hll:=hp.ll
 have nb:=Qc (s:=s) hp hk
 obtain⟨e0,e1,K,W,h1,h2,h3,hK,h5,h6,h7,h8⟩:=Nc (ps:=partsOf p) rfl (by omega) nb rfl (VN (s:=s) hp hk)
 obtain⟨W',Ls,hw,hW⟩:=UY rfl h2 nb h3 (ps:=partsOf p) rfl (by omega) (by omega)
 rw [h7]at hw
 cases hw
 refine⟨K,W, ?_,h8,hK,⟨fun h=> ?_,fun h=> ?_⟩,fun h=> ?_,fun h x hx=> ?_,fun l hl=> ?_, ?_⟩
 ·unfold jv
  rw [xG hp hs hk,bs,bz rfl,cE,bu,NH hp hs hk,bs]
  dsimp only
  rw [h1,bs]
  dsimp only
  rw [h7,bs]
 ·have hc:=h6 (by omega)
  have he:=h5 h
  subst he
  have:=Rf hp hk h2 hc
  cases hf:rQ p s k with
  |false=>rfl
  |true=>exact absurd ((xL hp hs hk).1 hf) this
 ·exact LX hp hk (fun q=>by rw [(xL hp hs hk).2 q]at h;cases h) h2 h3
 ·subst h
  have hfed:Fd p s k:=cP fun q=>by
   have:=LX hp hk q h2 h3
   omega
  obtain⟨x,hx⟩:=WU hp hs hk h2 h3 (h6 (by omega)) hfed
  intro e;rw [e]at hx;cases hx
 ·cases hf:rQ p (aU s x true) k with
  |true=>rfl
  |false=>
   obtain⟨ix,hB⟩:=U0 hp hs hx
   have:=UR hp hk hB (fun q=>by rw [(xL hp (VS.aU hs x true) hk).2 q]at hf;cases hf) h2 h3
   omega
 ·obtain⟨e,hl1,hall⟩:=hW
  rw [e]at hl
  obtain⟨L,hL,rfl⟩:=List.mem_map.1 hl
  obtain⟨t,ht,rfl⟩:=dX hL
  obtain⟨x,L',_,_,hc,hlt⟩:=hall t (by omega)
  exact Yq hp hk h2 nb h3 hc hlt
 ·obtain⟨z1,z2⟩:=Q5 h2 nb h3 W Ls hW fun i j hi hj e=>yS hi hj e
  exact⟨z1,by omega⟩
end
theorem drop_at {α:Type} [Inhabited α] {l r:List α} {i:Nat} {x:α} (h:l.drop i=x::r):i<l.length/\at' l i=x/\l.drop (i+1)=r:=by
 have hi:i<l.length:=by
  refine cP fun q=> ?_
  rw [List.drop_eq_nil_of_le (by omega)]at h;cases h
 rw [List.drop_eq_getElem_cons hi]at h
 cases h
 exact⟨hi,bZ hi,rfl⟩
section
variable {p:ah} {s:State} (hp:VP p) (hs:VS p s) {k:Nat}
include hp hs
theorem Qh {l:List Part} (hl:l.length<=10000) {b:Nat} {rest:List Part} (h:PW p s k b rest):b<p.ap.toNat-> ∀(i:Nat) (met:List Int),l.drop i=rest->met.length+rest.length<=10000->(∀c∈met,(⟨1,c⟩:Part) ∉ rest)->rest.Nodup->
  ∃t,t<2/\ ∀n,rest.length+1<=n->ay (bV p s l) n ((b:Int),met,(i:Int))=some (.brk (fd p k t)):=by
 have hbb:=hp.b;have hsl:=hp.sl;have hll:=hp.ll
 have c1:=hs.aq;have c2:=hs.am;have c3:=hs.al
 induction h with
 |fin h1 h2=>
  intro hb i met hd q1 q2 q3
  rename_i b t
  refine⟨t,h1,fun n hn=> ?_⟩
  obtain⟨n,rfl⟩: ∃m,n=m+1:=⟨n - 1,by omega⟩
  have:l.length<=i:=by
   refine cP fun q=> ?_
   rw [List.drop_eq_getElem_cons (by omega)]at hd;cases hd
  rw [aM]
  unfold bV
  dsimp only
  rw [ji (by omega),bu,h2]
 |step h1 h2 h3 h4 ih=>
  intro hb i met hd hlen hmet hnd
  rename_i b m w r
  obtain⟨i1,e1,hd1⟩:=drop_at hd
  obtain⟨i2,e2,hd2⟩:=drop_at hd1
  have l2:=hp.lnk m h1;have la:=l2.a;have lb:=l2.b
  have hw:w<p.ap.toNat:=by omega
  have hwm:(w:Int) ∉ met:=fun q=>hmet _ q (ct _ cw)
  rw [cC,cC]at hnd
  simp only [c7]at hlen
  obtain⟨t,ht,hrun⟩:=ih hw (i+2) (met++[(w:Int)]) hd2 (by simp;omega) (fun c hc=>by
   rcases cA.1 hc with hc|hc
   ·exact fun q=>hmet c hc (ct _ (ct _ q))
   ·rw [cH]at hc;subst hc;exact hnd.2.1) hnd.2.2
  refine⟨t,ht,fun n hn=> ?_⟩
  obtain⟨n,rfl⟩: ∃m,n=m+1:=⟨n - 1,by omega⟩
  have key:bV p s l ((b:Int),met,(i:Int))=some (.next ((w:Int),met++[(w:Int)],((i+2:Nat):Int))):=by
   unfold bV
   dsimp only
   have ec:(bif (bif (bif (!(at' s.aq m))then true else(at' s.am m))then true else(at' s.al (at' p.ae m).a.toNat))then true else(at' s.al (at' p.ae m).b.toNat))=false:=by
    unfold dD at h2
    revert h2
    cases at' s.aq m<;>cases at' s.am m<;>cases at' s.al (at' p.ae m).a.toNat<;>cases at' s.al (at' p.ae m).b.toNat<;>decide
   have eab:(bif (!decide ((at' p.ae m).a=(b:Int)))then(!decide ((at' p.ae m).b=(b:Int)))else false)=false:=by
    rcases h3 with⟨q,_⟩|⟨q,_⟩
    ·rw [bz q];rfl
    ·rw [bz q];cases decide ((at' p.ae m).a=(b:Int))<;>rfl
   have esum:IntKind.wrap .i64 (IntKind.wrap .i64 ((at' p.ae m).a+(at' p.ae m).b) - (b:Int))=(w:Int):=by
    rw [wr (x:=(at' p.ae m).a+(at' p.ae m).b) (by omega),wr (by omega)];omega
   have ei:(IntKind.wrap .i64 ((i:Int)+1)).toNat=i+1:=by rw [wr (by omega)];omega
   have hm1:(0:Int)<=(m:Int)/\(m:Int)<(p.ae.length:Int):=⟨by omega,by omega⟩
   rw [sM (by omega),bt,ai ⟨by omega,by omega⟩,bw,e1]
   dsimp only
   rw [bz rfl,b_ (show ¬ (m:Int)<0 by omega),b_ (show ¬ (p.ae.length:Int)<=(m:Int) by omega),ai hm1,bw,ec,eab]
   rw [ai ⟨⟨by omega,by omega⟩,fun _=> ⟨by omega,by omega⟩,fun _=> ⟨by omega,by omega⟩,fun _=> ⟨by omega,by omega⟩⟩,ei,e2,esum]
   dsimp only
   rw [bz rfl,bz rfl,has_eq _ _ (by omega),b_ hwm,show gB [(!(true && (true && true)),false)]=true from rfl,bt,bs,ai ⟨by rw [wr (by omega)];omega,by rw [wr (by omega)];omega⟩,wr (x:=(i:Int)+2) (by omega)]
   show bC _ _=_
   rw [ai ⟨by rw [cx];omega,by rw [cx];omega⟩]
   rfl
  rw [aM,key]
  exact hrun n (by simp only [c7]at hn;omega)
theorem O0 (hk:k<p.a_.length) {l:List Part} (hl:l.length<=10000) (h:Way p s k l):fE p s (k:Int) l=some true:=by
 obtain⟨j,b,l',rfl,hj,hf,hb,hpw,hnd⟩:=h
 have hbb:=hp.b;have hsl:=hp.sl
 have hbr:=(hp.src j hj).bus
 have c1:=hs.on;have c2:=hs.ag;have c3:=hs.al
 rw [cC,cC]at hnd
 obtain⟨t,ht,hrun⟩:=Qh hp hs hl hpw (by omega) 2 [(b:Int)] rfl (by simp at hl ⊢;omega) (fun c hc=>by rw [cH]at hc;subst hc;exact hnd.2.1) hnd.2.2
 have heven: ∀{b:Nat} {l':List Part},PW p s k b l'-> ∃q,l'.length=2*q:=fun h=>by
  induction h with
  |fin _ _=>exact⟨0,rfl⟩
  |step _ _ _ _ ih=>obtain⟨q,e⟩:=ih;exact⟨q+1,by simp only [c7];omega⟩
 obtain⟨q,hq⟩:=heven hpw
 have hlen:(((⟨2,(j:Int)⟩:Part)::⟨1,(b:Int)⟩::l').length:Int)=2*(q:Int)+2:=by simp only [c7];omega
 have hmod:Int.tmod (2*(q:Int)+2) 2=0:=by rw [Int.tmod_eq_emod_of_nonneg (by omega)];omega
 have hrun:=hrun FUEL (by simp at hl;unfold FUEL;omega)
 unfold fE
 have z0:at' ((⟨2,(j:Int)⟩:Part)::⟨1,(b:Int)⟩::l') 0=⟨2,(j:Int)⟩:=rfl
 have z1:at' ((⟨2,(j:Int)⟩:Part)::⟨1,(b:Int)⟩::l') 1=⟨1,(b:Int)⟩:=rfl
 generalize ((⟨2,(j:Int)⟩:Part)::⟨1,(b:Int)⟩::l')=L at*
 rw [z0,z1,hlen,hmod]
 dsimp only
 have hj1:(0:Int)<=(j:Int)/\(j:Int)<(p.aa.length:Int):=⟨by omega,by omega⟩
 unfold bY at hf
 simp only [ce,dd]at hf
 obtain⟨⟨q1,q2⟩,q3⟩:=hf
 rw [hb,bw]at q3
 rw [ai ⟨fun _=>by decide,fun _=> ⟨by omega,by omega⟩,fun _=> ⟨by omega,by omega⟩,fun _=> ⟨by omega,by omega⟩⟩,b_ (show ¬ 2*(q:Int)+2<2 by omega),bz rfl,bz rfl,b_ (show ¬ (j:Int)<0 by omega),b_ (show ¬ (p.aa.length:Int)<=(j:Int) by omega)]
 rw [bw,q1,q2,hb,bw,q3,bz rfl,bz rfl]
 show bC _ (bC _ (bC _ _))=_
 rw [ai ⟨by omega,by omega⟩,ai hj1,ai ⟨⟨by omega,by omega⟩,fun _=> ⟨by omega,by omega⟩,fun _=> ⟨by omega,by omega⟩,fun _=> ⟨by omega,by omega⟩⟩]
 show Option.bind (ay (bV p s L) FUEL ((b:Int),[(b:Int)],2)) _=_
 have hrun:ay (bV p s L) FUEL ((b:Int),[(b:Int)],2)=_:=hrun
 rw [hrun,bs]
 dsimp only
 rw [bw,has_eq _ _ (by simp),bs,ai ⟨by omega,by omega⟩]
 congr 1
 exact bz (at_mem (l:=[(at' p.a_ k).ba.e0,(at' p.a_ k).ba.e1]) (by simpa using ht))
end
theorem RQ (l:List Part) (x:Part) (hl:l.length<=100000):cO l x=some (match l.findIdx? (Vn x)with|some i=>(i:Int)|none=> -1):=by
 unfold cO
 rw [fH l (Vn x) id (by omega) (fun i hi=> ?_) ?_]
 ·cases l.findIdx? (Vn x)<;>rfl
 ·unfold gV
  rw [ji (by omega)];rfl
 ·unfold gV
  rw [sM (by omega),bt,ai ⟨by omega,by omega⟩,bw,wr (by omega)]
  exact kY _ _ _
theorem Di (l:List Part) (x:Part) (hl:l.length<=100000):jU l x=some (l.any (Vn x)):=by
 unfold jU
 rw [RQ l x hl,bs]
 exact congrArg some (rJ l (Vn x))
theorem vF {α:Type} [Inhabited α] (l:List α) (a n i:Nat) (h:i<n):at' (nW l a n) i=at' l (a+i):=by
 unfold nW
 rw [bZ (by simpa using h)]
 simp [ef]
theorem Xj {n:Int} (h:0<=n/\n<=1000000):nu n=some []:=by
 unfold nu
 have e:IntKind.wrap .i64 (n - IntKind.wrap .i64 ((0:Int) - ((([]:List Part).length:Nat):Int)))=n:=by
  rw [show IntKind.wrap .i64 ((0:Int) - ((([]:List Part).length:Nat):Int))=0 from wr (by simp)]
  rw [Int.sub_zero];exact wr (by omega)
 rw [b_ (by omega),bu,e]
 by_cases h0:0<n
 ·rw [bz h0,bt,ai ⟨⟨by omega,by simp⟩,h0,by omega,by omega,by simp,by simp;omega⟩]
  rfl
 ·rw [b_ h0,bu]
theorem I9 (W:List (List Part)) (hW:W.length<=1000) (hl:W.flatten.length<=100000):oC W=some W.flatten:=by
 have hle: ∀t,(W.take t).flatten.length<=W.flatten.length:=fun t=>by
  conv=>rhs;rw [<-eI t W,List.flatten_append,cd]
  omega
 have hst: ∀t,t<W.length->(W.take (t+1)).flatten=(W.take t).flatten++at' W t:=fun t ht=>by
  rw [dA ht,List.flatten_append];simp
 have k0:=bI (body:=iM W) (fun t=>(((W.take t).flatten.length:Int),(t:Int))) W.length (.brk (W.flatten.length:Int)) (fuel_lt (by omega)) (fun t ht=>by
  have h1:=hle (t+1)
  rw [hst t ht,cd]at h1
  unfold iM
  dsimp only
  rw [sM (by omega),bt,ai ⟨by omega,by omega⟩,bw,wr (by omega),b_ (by omega),bu,wr (by omega),hst t ht,cd]
  simp only [ew]
  rfl) (by
  unfold iM
  dsimp only
  rw [ji (by omega),ee];rfl)
 have k1:=bI (body:=iR W) (fun t=>((W.take t).flatten,(t:Int))) W.length (.brk W.flatten) (fuel_lt (by omega)) (fun t ht=>by
  have h1:=hle (t+1)
  rw [hst t ht,cd]at h1
  unfold iR
  dsimp only
  rw [sM (by omega),bt,ai ⟨by omega,by omega⟩,bw,ai ⟨by omega,by omega⟩,wr (by omega),hst t ht]
  rfl) (by
  unfold iR
  dsimp only
  rw [ji (by omega),ee];rfl)
 unfold oC
 have k0:ay (iM W) FUEL (0,0)=_:=k0
 rw [k0,bs]
 dsimp only
 rw [Xj ⟨by omega,by omega⟩,bs]
 have k1:ay (iR W) FUEL ([],0)=_:=k1
 rw [k1];rfl
section
variable {p:ah} {s:State} (hp:VP p) (hs:VS p s) {k:Nat} (hk:k<p.a_.length)
include hp hs hk
theorem JM {W:List (List Part)} (hn:W.length<=1000) (hw: ∀l∈W,Way p s k l) (hf:W.flatten.Nodup) (hlen:W.flatten.length<=10000):eO p s (k:Int) W=some 0:=by
 have hl1: ∀l∈W,l.length<=10000:=fun l hl=>dT (by
  have:=List.Sublist.length_le (List.sublist_flatten_of_mem hl)
  exact this) hlen
 have hc:dR W p.ap p.aa p.ae p.a_ s.aq s.aw s.am s.on_ s.ag s.ar s.al (k:Int)=some false:=by
  unfold dR iX
  rw [fH W (fun _=>false) id (by omega) (fun i hi=> ?_) ?_]
  ·rw [show W.findIdx? (fun _=>false)=none from List.findIdx?_eq_none_iff.2 fun _ _=>rfl]
   rfl
  ·unfold eX
   rw [ji (by omega)];rfl
  ·unfold eX jV
   have:=O0 hp hs hk (hl1 _ (at_mem hi)) (hw _ (at_mem hi))
   have this:fE ⟨p.ap,p.aa,p.ae,p.a_⟩ ⟨s.aq,s.aw,s.am,s.on_,s.ag,s.ar,s.al⟩ (k:Int) (at' W i)=_:=this
   rw [sM (by omega),bt,bw,this,bs,bs,ai ⟨by omega,by omega⟩,wr (by omega)]
   rfl
 have hL:ay (dh W.flatten) FUEL 0=some (.brk ()):=by
  have:=bI (body:=dh W.flatten) (fun t=>(t:Int)) W.flatten.length (.brk ()) (fuel_lt (by omega)) (fun t ht=>by
   unfold dh
   have hno:(nW W.flatten 0 t).any (Vn (at' W.flatten t))=false:=by
    rw [da]
    intro x hx hq
    have hq:=J3.1 hq
    obtain⟨i,hi,e⟩:=dX hx
    rw [fI]at hi
    rw [vF _ _ _ _ hi,cD,<-hq]at e
    unfold List.Nodup at hf
    rw [eK]at hf
    refine hf i t (by omega) ht hi ?_
    rw [<-bZ (by omega),<-bZ ht,e]
   rw [sM (by omega),bt,ai ⟨by omega,by omega⟩,bw,Di _ _ (by rw [fI];omega),hno,bs,ai ⟨by omega,by omega⟩,wr (by omega)]
   rfl) (by
   unfold dh
   rw [ji (by omega)];rfl)
  exact this
 unfold eO
 rw [xG hp hs hk,bs,bz rfl,cE,bu,hc,bs,bu,I9 W hn (by omega),bs,hL]
 rfl
end
theorem H7 (x:Link) (h:x.trip.length<=8796093021952):qi x=some x:=by
 unfold qi rT
 rw [ai (by omega)];rfl
theorem Gc (p:ah) (h1:p.aa.length<=60) (h2:p.ae.length<=60) (h3:p.a_.length<=60) (h4: ∀x∈p.ae,x.trip.length<=8796093021952):oG p=some p:=by
 have key:ay (gI p.ae) FUEL (p.ae.take 0,((0:Nat):Int))=some (.brk (p.ae.take p.ae.length)):=by
  refine bI (body:=gI p.ae) (fun t=>(p.ae.take t,(t:Int))) p.ae.length _ (fuel_lt (by omega)) (fun t ht=> ?_) ?_
  ·unfold gI
   have d1:decide ((t:Int)<(p.ae.length:Int))=true:=bz (by omega)
   simp only [d1,bt,bw]
   have:=h4 _ (at_mem ht)
   rw [H7 _ (by omega),bs,ai ⟨by omega,by rw [d8,cx];omega,by rw [d8,cx];omega⟩,wr (by omega),dA ht]
   rfl
  ·unfold gI
   have d1:decide ((p.ae.length:Int)<(p.ae.length:Int))=false:=b_ (by omega)
   simp only [d1,bu]
 have key':ay (gI p.ae) FUEL ([],0)=_:=key
 unfold oG pO rX rU
 rw [ai (by omega),key',ai (by omega),ee]
 rfl
theorem F5 (l:List kJ) (h:l.length<=8796093021952):oJ l l=some true:=by
 unfold oJ
 rw [zM (body:=kM l l) l (by omega) (fun t ht=> ?_) (by unfold kM;simp)]
 ·simp
 ·unfold kM
  rw [bz (show(t:Int)<(l.length:Int) by omega),bt,ai ⟨by omega,by omega⟩,wr (by omega)]
  simp
theorem Dx (l:List Source) (h:l.length<=1000):mh l l=some true:=by
 unfold mh
 rw [zM (body:=jE l l) l (by omega) (fun t ht=> ?_) (by unfold jE;simp)]
 ·simp
 ·unfold jE
  rw [bz (show(t:Int)<(l.length:Int) by omega),bt,ai ⟨by omega,by omega⟩,wr (by omega)]
  simp
theorem Gi (l:List aL) (h:l.length<=1000):ou l l=some true:=by
 unfold ou
 rw [zM (body:=kL l l) l (by omega) (fun t ht=> ?_) (by unfold kL;simp)]
 ·simp
 ·unfold kL
  rw [bz (show(t:Int)<(l.length:Int) by omega),bt,ai ⟨by omega,by omega⟩,wr (by omega)]
  simp
theorem H9 (x:Link) (h:x.trip.length<=8796093021952):pY x x=some true:=by
 unfold pY
 rw [F5 _ h];simp [gB]
theorem FJ (l:List Link) (h:l.length<=1000) (ht: ∀x∈l,x.trip.length<=8796093021952):oF l l=some true:=by
 unfold oF
 rw [zM (body:=kQ l l) l (by omega) (fun t htl=> ?_) (by unfold kQ;simp)]
 ·simp
 ·unfold kQ
  rw [bz (show(t:Int)<(l.length:Int) by omega),bt,bw,H9 _ (ht _ (at_mem htl)),bs,ai ⟨by omega,by omega⟩,wr (by omega)]
  rfl
theorem He (p:ah) (h1:p.aa.length<=60) (h2:p.ae.length<=60) (h3:p.a_.length<=60) (h4: ∀x∈p.ae,x.trip.length<=8796093021952):oz p p=some true:=by
 unfold oz
 rw [Dx _ (by omega),FJ _ (by omega) h4,Gi _ (by omega)]
 simp [gB]
instance:DecidableEq Part:=fun x y=>decidable_of_iff (x.kind=y.kind/\x.index=y.index) ⟨fun h=>by obtain⟨a,b⟩:=x;obtain⟨c,d⟩:=y;obtain⟨h1,h2⟩:=h;dsimp only at h1 h2;rw [h1,h2],fun h=>by rw [h];exact⟨rfl,rfl⟩⟩
theorem V5 (l:List Part) (x:Part):(l.any fun y=>((decide (y.kind=x.kind)) && ((decide (y.index=x.index)) && true)))=decide (x∈l):=by
 have e: ∀y:Part,((decide (y.kind=x.kind)) && ((decide (y.index=x.index)) && true))=true↔y=x:=fun y=>by
  obtain⟨a,b⟩:=x;obtain⟨c,d⟩:=y
  simp
 rw [Bool.eq_iff_iff,c_,dg]
 constructor
 ·rintro ⟨y,h1,h2⟩
  rw [<-(e y).1 h2];exact h1
 ·exact fun h=> ⟨x,h,(e x).2 rfl⟩
theorem NM {α:Type} (l:List α) (bad:α->Bool):(l.findIdx? bad=none/\l.any bad=false)\/ ∃k,l.findIdx? bad=some k/\l.any bad=true:=by
 cases h:l.findIdx? bad with
 |none=>
  rw [List.findIdx?_eq_none_iff]at h
  exact .inl ⟨rfl,by rw [da];intro x hx;simp [h x hx]⟩
 |some k=>
  rw [List.findIdx?_eq_some_iff_getElem]at h
  obtain⟨hk,hp,hn⟩:=h
  exact .inr ⟨k,rfl,by rw [c_];exact⟨_,List.getElem_mem hk,hp⟩⟩
theorem tQ {α ρ:Type} [Inhabited α] {body:Int->Option (aV Int (Ex Unit ρ))} (l:List α) (bad:α->Bool) (v:ρ) (hl:l.length<=9223372036854775807)
  (hb: ∀i:Nat,i<l.length->body i=some (bif bad (at' l i)then .done (.ret v)else .next ((i:Int)+1))) (he:body l.length=some (.done (.brk ()))):
  ay body FUEL 0=some (bif l.any bad then .ret v else .brk ()):=by
 rw [fH l bad (fun _=>v) hl hb he]
 rcases NM l bad with⟨h1,h2⟩|⟨q,h1,h2⟩<;>rw [h1,h2]<;>rfl
theorem Kq (l:List Part) (x:Part) (hl:l.length<=100000):oU l x=some (decide (x∈l)):=by
 unfold oU
 rw [fH l (fun y=>((decide (y.kind=x.kind)) && ((decide (y.index=x.index)) && true))) (fun _=>true) (by omega) (fun i hi=> ?_) ?_,bs]
 ·rw [<-V5]
  rcases NM l (fun y=>((decide (y.kind=x.kind)) && ((decide (y.index=x.index)) && true)))with⟨h1,h2⟩|⟨q,h1,h2⟩<;>rw [h1,h2]
 ·unfold vW
  rw [ji (by omega)];rfl
 ·unfold vW
  rw [sM (by omega),bt,ai ⟨by omega,by omega⟩,bw,wr (by omega)]
  exact kY _ _ _
theorem KO (a b:List Part) (ha:a.length<=100000) (hb:b.length<=100000):kI a b=some (!(a.any fun x=>decide (x∈b))):=by
 unfold kI
 rw [fH a (fun x=>decide (x∈b)) (fun _=>false) (by omega) (fun i hi=> ?_) ?_,bs]
 ·rcases NM a (fun x=>decide (x∈b))with⟨h1,h2⟩|⟨q,h1,h2⟩<;>rw [h1,h2]<;>rfl
 ·unfold nU
  rw [ji (by omega)];rfl
 ·unfold nU
  rw [sM (by omega),bt,bw,Kq _ _ hb,bs,ai ⟨by omega,by omega⟩,wr (by omega)]
  exact kY _ _ _
theorem Cm (l:List Part) (h:l.length<=1000000):ic l=some l:=by
 unfold ic
 rw [ai ⟨by omega,by omega⟩]
def Hr (p:ah) (k:Nat) (b:Int):Bool:=decide ((at' p.a_ k).ba.e0=b)||decide ((at' p.a_ k).ba.e1=b)
theorem Ph (p:ah) {k:Nat} (hk:k<p.a_.length) (b:Int):qh p (k:Int) b=some (Hr p k b):=by
 unfold qh
 rw [ai ⟨⟨by omega,by omega⟩,fun _=> ⟨by omega,by omega⟩⟩,bw,uZ];rfl
theorem Me {p:ah} {k:Nat} {b:Int}:Hr p k b=true↔ ∃t,t<2/\fd p k t=b:=by
 unfold Hr
 rw [cQ,dg,dg]
 constructor
 ·rintro (h|h)
  ·exact⟨0,by omega,h⟩
  ·exact⟨1,by omega,h⟩
 ·rintro ⟨t,ht,h⟩
  match t,ht with
  |0,_=>exact .inl h
  |1,_=>exact .inr h
def ku (p:ah) (i:Nat) (b:Int):Int:=(at' p.ae i).a+(at' p.ae i).b - b
def Np (p:ah) (s:State) (l:List Part) (b:Int) (i:Nat):Bool:=dD p s i && (decide ((at' p.ae i).a=b)||decide ((at' p.ae i).b=b)) && !decide ((⟨1,ku p i b⟩:Part)∈l)
def JY (p:ah) (s:State) (k:Nat):Nat->Int->List Part->List (List Part)
 |0,_,_=>[]
 |d+1,b,l=>(bif Hr p k b then [l]else [])++fC (fun i=>bif Np p s l b i then JY p s k d (ku p i b) (l++[⟨3,(i:Int)⟩,⟨1,ku p i b⟩])else []) p.ae.length
def left (p:ah) (l:List Part):Nat:=(List.range p.ap.toNat).countP fun(b:Nat)=> !decide ((⟨1,(b:Int)⟩:Part)∈l)
theorem EY {p:ah} {l:List Part} {c:Int} {m:Part} (hm:m.kind≠1) (h:(⟨1,c⟩:Part) ∉ l) (hc:0<=c/\c<p.ap):left p (l++[m,⟨1,c⟩])<left p l:=by
 refine cnt_lt (fun b _ hb=> ?_) ⟨c.toNat,c9.2 (by omega), ?_, ?_⟩
 ·simp only [dd,de]at hb ⊢
  exact fun q=>hb (cA.2 (.inl q))
 ·rw [show((c.toNat:Nat):Int)=c by omega,b_ h];rfl
 ·rw [show((c.toNat:Nat):Int)=c by omega,bz (by simp)];rfl
section
variable {p:ah} {s:State} (hp:VP p) (hs:VS p s) {k:Nat} (hk:k<p.a_.length) (h12:p.ae.length<=12)
include hp hs hk h12
theorem VG {i:Nat} (hi:i<p.ae.length) {b:Int} (h:(at' p.ae i).a=b\/(at' p.ae i).b=b):0<=ku p i b/\ku p i b<p.ap:=by
 have l2:=hp.lnk i hi;have la:=l2.a;have lb:=l2.b
 unfold ku
 rcases h with h|h<;>omega
theorem Kv: ∀(d:Nat) (b:Int) (l:List Part),(JY p s k d b l).length<=13 ^ d
 |0,b,l=>by simp [JY]
 |d+1,b,l=>by
  unfold JY
  have h1:=oo (f:=fun i=>bif Np p s l b i then JY p s k d (ku p i b) (l++[⟨3,(i:Int)⟩,⟨1,ku p i b⟩])else []) (m:=13 ^ d) (n:=p.ae.length) fun i _=>by
   cases Np p s l b i
   ·simp
   ·exact Kv d _ _
  have h2:(bif Hr p k b then [l]else([]:List (List Part))).length<=1:=by cases Hr p k b<;>simp
  have h3:0<13 ^ d:=Nat.pow_pos (by decide)
  have h4:p.ae.length*13 ^ d<=12*13 ^ d:=cJ _ h12
  rw [cd,Nat.pow_succ]
  omega
theorem Pe {ρ:Type} {body:(List (List Part) × Int)->Option (aV (List (List Part) × Int) (Ex (List (List Part)) ρ))} (f:Nat->List (List Part)) (n:Nat) (o:List (List Part)) (hn:n<=1000000)
  (hb: ∀t,t<n->body (o++fC f t,(t:Int))=some (.next (o++fC f (t+1),(t:Int)+1))) (he:body (o++fC f n,(n:Int))=some (.done (.brk (o++fC f n)))):ay body FUEL (o,0)=some (.brk (o++fC f n)):=by
 have key:=bI (body:=body) (fun t=>(o++fC f t,(t:Int))) n (.brk (o++fC f n)) (fuel_lt (by omega)) (fun t ht=>by rw [hb t ht];rfl) he
 rw [show o++fC f 0=o from cX o]at key
 exact key
theorem Wd {d:Nat} (hd:d<=8) {rec:ah->State->Int->List Part->Option (List (List Part))} {l:List Part} {b:Int} (hl:1<=l.length/\l.length<=1000) (hlast:(at' l (l.length - 1)).index=b) (hb0:0<=b/\b<p.ap)
  (ih: ∀(i:Nat),i<p.ae.length->Np p s l b i=true->rec p s (k:Int) (l++[⟨3,(i:Int)⟩,⟨1,ku p i b⟩])=some (JY p s k d (ku p i b) (l++[⟨3,(i:Int)⟩,⟨1,ku p i b⟩])))
  {t:Nat} (ht:t<p.ae.length) (o:List (List Part)) (ho:o.length<=1+t*13 ^ d):
  lQ rec p s (k:Int) l (o,(t:Int))=some (.next (o++(bif Np p s l b t then JY p s k d (ku p t b) (l++[⟨3,(t:Int)⟩,⟨1,ku p t b⟩])else []),(t:Int)+1)):=by
 have hbb:=hp.b
 have hli:=hp.lnk t ht;have la:=hli.a;have lb:=hli.b
 have hat:(at' l ((IntKind.wrap .i64 ((l.length:Int) - 1)).toNat)).index=b:=by
  rw [wr (by omega),show((l.length:Int) - 1).toNat=l.length - 1 by omega];exact hlast
 have hoth:IntKind.wrap .i64 (IntKind.wrap .i64 ((at' p.ae t).a+(at' p.ae t).b) - b)=ku p t b:=by
  unfold ku
  rw [wr (x:=(at' p.ae t).a+(at' p.ae t).b) (by omega),wr (by omega)]
 have h13:13 ^ d<=815730721:=dT (Nat.pow_le_pow_right (by decide) hd) (by decide)
 have htm:t*13 ^ d<=12*13 ^ d:=cJ _ (by omega)
 unfold lQ
 dsimp only
 rw [sM (by omega),bt,ai ⟨by omega,by omega⟩,bw,uF hp hs ht,bs,hat,hoth,wr (x:=(t:Int)+1) (by omega)]
 have e1:(bif (!dD p s t)then true else(bif (!decide ((at' p.ae t).a=b))then(!decide ((at' p.ae t).b=b))else false))= !(dD p s t && (decide ((at' p.ae t).a=b)||decide ((at' p.ae t).b=b))):=by
  cases dD p s t<;>cases decide ((at' p.ae t).a=b)<;>cases decide ((at' p.ae t).b=b)<;>rfl
 rw [e1]
 unfold Np at ih ⊢
 cases hg:(dD p s t && (decide ((at' p.ae t).a=b)||decide ((at' p.ae t).b=b)))with
 |false=>
  rw [cF,bt,Bool.false_and,bu,cX]
 |true=>
  rw [cE,bu,Kq _ _ (by omega),bs,cR]
  by_cases hm:(⟨1,ku p t b⟩:Part)∈l
  ·rw [bz hm,bt,cE,bu,cX]
  ·have hrec:=ih t ht (by rw [hg,b_ hm];rfl)
   have hlen:=Kv hp hs hk h12 d (ku p t b) (l++[⟨3,(t:Int)⟩,⟨1,ku p t b⟩])
   rw [b_ hm,bu,cF,bt,Cm _ (by omega),bs,ai ⟨by simp;omega,by simp;omega⟩,hrec,bs,ai ⟨by omega,by omega⟩]
theorem XY: ∀(d n:Nat) (b:Int) (l:List Part),d<=9->d<n->1<=l.length/\l.length+2*d<=100->at' l (l.length - 1)=⟨1,b⟩->0<=b/\b<p.ap->left p l<d->iQ n p s (k:Int) l=some (JY p s k d b l)
 |0,n,b,l,_,_,_,_,_,h=>by omega
 |d+1,0,b,l,_,hn,_,_,_,_=>by omega
 |d+1,n+1,b,l,hd,hn,hl,hlast,hb0,hleft=>by
  have hbb:=hp.b
  have hat:(at' l ((IntKind.wrap .i64 ((l.length:Int) - 1)).toNat)).index=b:=by
   rw [wr (by omega),show((l.length:Int) - 1).toNat=l.length - 1 by omega,hlast]
  have hml:(⟨1,b⟩:Part)∈l:=by rw [<-hlast];exact at_mem (by omega)
  have ih: ∀(i:Nat),i<p.ae.length->Np p s l b i=true->iQ n p s (k:Int) (l++[⟨3,(i:Int)⟩,⟨1,ku p i b⟩])=some (JY p s k d (ku p i b) (l++[⟨3,(i:Int)⟩,⟨1,ku p i b⟩])):=fun i hi hg=>by
   unfold Np at hg
   simp only [ce,cQ,dj,dd,de]at hg
   obtain⟨⟨g1,g2⟩,g3⟩:=hg
   have hor:=VG hp hs hk h12 hi g2
   have hll:=EY (p:=p) (l:=l) (c:=ku p i b) (m:=⟨3,(i:Int)⟩) (show(3:Int)≠1 by decide) g3 hor
   refine XY d n _ _ (by omega) (by omega) ⟨by simp,by simp;omega⟩ ?_ hor (by omega)
   rw [bZ (by simp)]
   simp
  have st:=fun t ht o ho=>Wd hp hs hk h12 (d:=d) (rec:=iQ n) (l:=l) (b:=b) (by omega) ⟨hl.1,by omega⟩ (by rw [hlast]) hb0 ih (t:=t) ht o ho
  have run: ∀o:List (List Part),o.length<=1->ay (lQ (iQ n) p s (k:Int) l) FUEL (o,0)=some (.brk (o++fC (fun i=>bif Np p s l b i then JY p s k d (ku p i b) (l++[⟨3,(i:Int)⟩,⟨1,ku p i b⟩])else []) p.ae.length)):=fun o ho=>by
   refine Pe hp hs hk h12 _ _ _ (by omega) (fun t ht=> ?_) ?_
   ·have hal:=oo (f:=fun i=>bif Np p s l b i then JY p s k d (ku p i b) (l++[⟨3,(i:Int)⟩,⟨1,ku p i b⟩])else []) (m:=13 ^ d) (n:=t) fun i _=>by
     cases Np p s l b i
     ·simp
     ·exact Kv hp hs hk h12 d _ _
    rw [st t ht _ (by rw [cd];omega)]
    rw [cS];rfl
   ·unfold lQ
    dsimp only
    rw [ji (by omega)];rfl
  show oI (iQ n) p s (k:Int) l=_
  unfold oI
  rw [ai ⟨by rw [wr (by omega)];omega,by rw [wr (by omega)];omega⟩,hat,Ph p hk,bs]
  rw [show JY p s k (d+1) b l=(bif Hr p k b then [l]else [])++fC (fun i=>bif Np p s l b i then JY p s k d (ku p i b) (l++[⟨3,(i:Int)⟩,⟨1,ku p i b⟩])else []) p.ae.length from rfl]
  cases Hr p k b with
  |true=>
   rw [bt,bt,ai ⟨by simp,by simp⟩,run [l] (by simp)];rfl
  |false=>
   rw [bu,bu,show A7 (iQ n) p s (k:Int) l=lQ (iQ n) p s (k:Int) l from rfl,run [] (by simp)];rfl
omit hs hk h12 in
theorem Px (l:List Part):left p l<=p.ap.toNat:=by
 unfold left
 exact dT List.countP_le_length (by simp)
def DN (p:ah) (s:State) (k j:Nat):List (List Part):=bif bY p s j then JY p s k 8 (at' p.aa j).bus [⟨2,(j:Int)⟩,⟨1,(at' p.aa j).bus⟩]else []
def ER (p:ah) (s:State) (k:Nat):List (List Part):=fC (DN p s k) p.aa.length
theorem Fv (j:Nat):(DN p s k j).length<=815730721:=by
 unfold DN
 cases bY p s j
 ·simp
 ·exact dT (Kv hp hs hk h12 8 _ _) (by decide)
theorem SC:(ER p s k).length<=8*815730721:=by
 have:=oo (f:=DN p s k) (m:=815730721) (n:=p.aa.length) fun j _=>Fv hp hs hk h12 j
 have hsl:=hp.sl
 exact dT this (cJ _ hsl)
theorem all_eq (h7:p.ap<=7):vv p s (k:Int)=some (ER p s k):=by
 have hbb:=hp.b;have hsl:=hp.sl
 have run:=Pe hp hs hk h12 (body:=qd p s (k:Int)) (DN p s k) p.aa.length [] (by omega) (fun t ht=>by
  have hal:=oo (f:=DN p s k) (m:=815730721) (n:=t) fun j _=>Fv hp hs hk h12 j
  have hal2:=Fv hp hs hk h12 t
  have hbu:=(hp.src t ht).bus
  have hc:(0:Int)<=(t:Int)/\(t:Int)<(p.aa.length:Int):=⟨by omega,by omega⟩
  rw [cY,cY,show fC (DN p s k) (t+1)=fC (DN p s k) t++DN p s k t from rfl]
  unfold qd
  dsimp only
  rw [sM (by omega),bt,zo hp hs ht,bs,bw,wr (by omega)]
  unfold DN at hal2 ⊢
  cases hf:bY p s t with
  |false=>rw [bu,bu,cX]
  |true=>
   rw [hf,bt]at hal2
   have hlf:left p [(⟨2,(t:Int)⟩:Part),⟨1,(at' p.aa t).bus⟩]<left p []:=EY (l:=[]) (show(2:Int)≠1 by decide) (by simp) hbu
   have hl0:=Px hp (l:=[])
   unfold DN at hal
   rw [bt,bt,XY hp hs hk h12 8 FUEL (at' p.aa t).bus _ (by decide) (by unfold FUEL;omega) (by simp) rfl hbu (by omega),bs,ai ⟨hc,by omega,by omega⟩]) (by
  unfold qd
  dsimp only
  rw [ji (by omega)];rfl)
 unfold vv
 rw [run];rfl
end
def Ue (p:ah) (s:State) (k:Nat) (l:List Part):Prop:=
 ∃(j b:Nat) (l':List Part),l=⟨2,(j:Int)⟩::⟨1,(b:Int)⟩::l'/\j<p.aa.length/\bY p s j=true/\(at' p.aa j).bus=(b:Int)/\PW p s k b l'
theorem Way.w {p:ah} {s:State} {k:Nat} {l:List Part} (h:Way p s k l):Ue p s k l:=by
 obtain⟨j,b,l',h1,h2,h3,h4,h5,_⟩:=h
 exact⟨j,b,l',h1,h2,h3,h4,h5⟩
section
variable {p:ah} {s:State} (hp:VP p) (hs:VS p s) {k:Nat} (hk:k<p.a_.length)
include hp hs
theorem QX {x:Part} (hx:kr p x) {l:List Part} (h:Ue p s k l) (hn:x ∉ l):Fd p (aU s x true) k:=by
 obtain⟨j,b,l',rfl,hj,hf,hb,hpw⟩:=h
 have n1:(⟨2,(j:Int)⟩:Part)≠x:=fun e=>hn (by rw [<-e];exact cw)
 have n2:(⟨1,(b:Int)⟩:Part)≠x:=fun e=>hn (by rw [<-e];exact ct _ cw)
 have hf':=Q8 hp hs hx hj hb n1 n2 hf
 have hbb:at' (aU s x true).al b=false:=by
  unfold bY at hf'
  simp only [ce,dd]at hf'
  have:=hf'.2
  rw [hb,bw]at this;exact this
 refine Xz hp (WE hp hs hx hpw n2 fun q=>hn (ct _ (ct _ q))) hbb hj hf' (lw:=[]) ?_
 rw [hb,bw];exact .nil
omit hs in
theorem Pt {l:List Part} (h:Ue p s k l):Fd p s k:=by
 obtain⟨j,b,l',rfl,hj,hf,hb,hpw⟩:=h
 have hbb:at' s.al b=false:=by
  unfold bY at hf
  simp only [ce,dd]at hf
  have:=hf.2
  rw [hb,bw]at this;exact this
 refine Xz hp hpw hbb hj hf (lw:=[]) ?_
 rw [hb,bw];exact .nil
include hk
theorem K3 {x:Part} (hx:x∈vo p s k) {l:List Part} (h:Ue p s k l):x∈l:=by
 obtain⟨h1,h2⟩:=db.1 hx
 have hi:=En hp h1
 refine cP fun hn=> ?_
 have:=QX hp hs hi h hn
 rw [(xL hp (VS.aU hs x true) hk).2 this]at h2
 cases h2
omit hs hk in
theorem L8: ∀(d:Nat) (b:Nat) (l y:List Part),b<p.ap.toNat->y∈JY p s k d (b:Int) l-> ∃r,y=l++r/\PW p s k b r/\r.length<=2*d
 |0,b,l,y,_,h=>by cases h
 |d+1,b,l,y,hb,h=>by
  have hbb:=hp.b
  unfold JY at h
  rcases cA.1 h with h|h
  ·cases he:Hr p k (b:Int)with
   |false=>rw [he]at h;cases h
   |true=>
    rw [he,bt,cH]at h
    obtain⟨t,ht,e⟩:=Me.1 he
    exact⟨[],by rw [h,cX], .fin ht e,by simp⟩
  ·obtain⟨i,hi,h⟩:=cu.1 h
   cases hg:Np p s l (b:Int) i with
   |false=>rw [hg]at h;cases h
   |true=>
    rw [hg,bt]at h
    unfold Np at hg
    simp only [ce,cQ,dj,dd,de]at hg
    obtain⟨⟨g1,g2⟩,g3⟩:=hg
    have hli:=hp.lnk i hi;have la:=hli.a;have lb:=hli.b
    have hor:0<=ku p i (b:Int)/\ku p i (b:Int)<p.ap:=by unfold ku;rcases g2 with q|q<;>omega
    have hoe:((ku p i (b:Int)).toNat:Int)=ku p i (b:Int):=by omega
    rw [<-hoe]at h
    obtain⟨r,e1,e2,e3⟩:=L8 d (ku p i (b:Int)).toNat _ y (by omega) h
    refine⟨⟨3,(i:Int)⟩::⟨1,((ku p i (b:Int)).toNat:Int)⟩::r,by rw [e1];simp, .step hi g1 ?_ e2,by simp only [c7];omega⟩
    rw [hoe]
    unfold ku
    rcases g2 with q|q<;>omega
omit hs hk in
theorem Va {b:Nat} {r:List Part} (h:PW p s k b r): ∀(d:Nat) (l:List Part),left p l<d->(∀c,(⟨1,c⟩:Part)∈r->(⟨1,c⟩:Part) ∉ l)->r.Nodup->l++r∈JY p s k d (b:Int) l:=by
 induction h with
 |fin h1 h2=>
  intro d l hd z1 z2
  rename_i b t
  obtain⟨d,rfl⟩: ∃m,d=m+1:=⟨d - 1,by omega⟩
  unfold JY
  rw [Me.2 ⟨t,h1,h2⟩,bt,cX]
  exact cA.2 (.inl (cH.2 rfl))
 |step h1 h2 h3 h4 ih=>
  intro d l hd hnew hnd
  rename_i b m w r
  obtain⟨d,rfl⟩: ∃m,d=m+1:=⟨d - 1,by omega⟩
  have hli:=hp.lnk m h1;have la:=hli.a;have lb:=hli.b
  have ho:ku p m (b:Int)=(w:Int):=by unfold ku;rcases h3 with⟨q1,q2⟩|⟨q1,q2⟩<;>omega
  have hwn:(⟨1,(w:Int)⟩:Part) ∉ l:=hnew _ (ct _ cw)
  rw [cC,cC]at hnd
  have hwr:0<=(w:Int)/\(w:Int)<p.ap:=by rcases h3 with⟨q1,q2⟩|⟨q1,q2⟩<;>omega
  have hlt:=EY (p:=p) (l:=l) (c:=(w:Int)) (m:=⟨3,(m:Int)⟩) (show(3:Int)≠1 by decide) hwn hwr
  have hi:=ih d (l++[⟨3,(m:Int)⟩,⟨1,(w:Int)⟩]) (by omega) (fun c hc hc2=>by
   rcases cA.1 hc2 with q|q
   ·exact hnew c (ct _ (ct _ hc)) q
   ·rcases eA.1 q with q|q
    ·cases q
    ·rw [cH]at q
     rw [q]at hc
     exact hnd.2.1 hc) hnd.2.2
  unfold JY
  refine cA.2 (.inr (cu.2 ⟨m,h1, ?_⟩))
  have hg:Np p s l (b:Int) m=true:=by
   unfold Np
   rw [h2,ho,b_ hwn]
   rcases h3 with⟨q1,_⟩|⟨q1,_⟩
   ·rw [bz q1];rfl
   ·rw [bz q1,Bool.or_true];rfl
  rw [hg,bt,ho]
  have e:l++(⟨3,(m:Int)⟩::⟨1,(w:Int)⟩::r)=l++[⟨3,(m:Int)⟩,⟨1,(w:Int)⟩]++r:=by simp
  rw [e];exact hi
omit hs hk in
theorem Ac {y:List Part} (h:y∈ER p s k):Ue p s k y/\y.length<=18:=by
 obtain⟨j,hj,h⟩:=cu.1 h
 unfold DN at h
 cases hf:bY p s j with
 |false=>rw [hf]at h;cases h
 |true=>
  have hbu:=(hp.src j hj).bus
  have e:((at' p.aa j).bus.toNat:Int)=(at' p.aa j).bus:=by omega
  rw [hf,bt,<-e]at h
  obtain⟨r,e1,e2,e3⟩:=L8 hp 8 _ _ y (by omega) h
  exact⟨⟨j,_,r,e1,hj,hf,e.symm,e2⟩,by rw [e1];simp;omega⟩
omit hs hk in
theorem Sr (h7:p.ap<=7) {y:List Part} (h:Way p s k y):y∈ER p s k:=by
 obtain⟨j,b,l',rfl,hj,hf,hb,hpw,hnd⟩:=h
 have hbu:=(hp.src j hj).bus
 rw [cC,cC]at hnd
 refine cu.2 ⟨j,hj, ?_⟩
 unfold DN
 rw [hf,bt,hb]
 have hlf:left p [(⟨2,(j:Int)⟩:Part),⟨1,(b:Int)⟩]<left p []:=EY (l:=[]) (show(2:Int)≠1 by decide) (by simp) (by omega)
 have hl0:=Px hp (l:=[])
 exact Va hp hpw 8 [⟨2,(j:Int)⟩,⟨1,(b:Int)⟩] (by omega) (fun c hc hc2=>by
  rcases eA.1 hc2 with q|q
  ·cases q
  ·rw [cH]at q
   rw [q]at hc;exact hnd.2.1 hc) hnd.2.2
end
theorem at_range {n i:Nat} (h:i<n):at' (List.range n) i=i:=by rw [bZ (by simpa using h)];simp
def OB (a b:List Part):Bool:= !(a.any fun x=>decide (x∈b))
theorem CB {a b:List Part}:OB a b=true↔ ∀x∈a,x ∉ b:=by
 unfold OB
 rw [dd,da]
 constructor
 ·intro h x hx hb
  exact h x hx (bz hb)
 ·intro h x hx hb
  exact h x hx (of_decide_eq_true hb)
def Nt (A:List (List Part)):Bool:=(List.range A.length).any fun i=>(List.range i).any fun j=>OB (at' A i) (at' A j)
theorem Gx (A:List (List Part)) (hA:A.length<=9223372036854775807) (hy: ∀y∈A,y.length<=100000):ay (jW A) FUEL 0=some (bif Nt A then .ret (2,0)else .brk ()):=by
 have L1: ∀i,i<A.length->ay (jR A (i:Int)) FUEL 0=some (bif (List.range i).any (fun j=>OB (at' A i) (at' A j))then .ret (aV.done (Ex.ret (2,0)))else .brk ()):=fun i hi=>by
  refine tQ (List.range i) (fun j=>OB (at' A i) (at' A j)) (aV.done (Ex.ret (2,0))) (by rw [c8];omega) (fun j hj=> ?_) ?_
  ·rw [c8]at hj
   rw [at_range hj]
   unfold jR
   rw [sM (by omega),bt,bw,bw,KO _ _ (hy _ (at_mem hi)) (hy _ (at_mem (by omega))),bs,ai ⟨⟨by omega,by omega⟩,by omega,by omega⟩,wr (by omega)]
   exact kY _ _ _
  ·rw [c8]
   unfold jR
   rw [ji (by omega)];rfl
 unfold Nt
 refine tQ (List.range A.length) (fun i=>(List.range i).any fun j=>OB (at' A i) (at' A j)) (2,0) (by rw [c8];omega) (fun i hi=> ?_) ?_
 ·rw [c8]at hi
  rw [at_range hi]
  unfold jW
  rw [sM (by omega),bt,L1 i hi,bs,wr (by omega)]
  cases(List.range i).any fun j=>OB (at' A i) (at' A j)<;>rfl
 ·rw [c8]
  unfold jW
  rw [ji (by omega)];rfl
section
variable {p:ah} {s:State} (hp:VP p) (hs:VS p s) {k:Nat} (hk:k<p.a_.length)
include hp hs hk
theorem BF:eG p s (k:Int)=some 0:=by
 unfold eG
 rw [nG p s hp.small,bs,kK.mpr ⟨hp,hs⟩,bz rfl,bt,b_ (by omega),bu,b_ (by omega),bu]
theorem Gf (h12:p.ae.length<=12) (h7:p.ap<=7): ∃(K:Nat) (W:List (List Part)),iL p s (k:Int)=some ((K:Int),0)/\dZ p s (k:Int)=some ((K:Int),0)/\jv p s (k:Int)=some (W,0)/\W.length=K/\K<=2/\(∀l∈W,Way p s k l)/\W.flatten.Nodup/\W.flatten.length<=1000:=by
 obtain⟨K,W,hW,hWl,hK,g0,g1,g2,gw,gf,hfl⟩:=KE hp hs hk
 have hS:dZ p s (k:Int)=some ((K:Int),0):=by
  unfold dZ
  rw [hW,bs]
  dsimp only
  rw [hWl]
 refine⟨K,W, ?_,hS,hW,hWl,hK,gw,gf,hfl⟩
 have hlen:=SC hp hs hk h12
 unfold iL
 rw [BF hp hs hk,bs,bz rfl,cE,bu,all_eq hp hs hk h12 h7,bs,Gx _ (by omega) fun y hy=>by have:=(Ac hp hy).2;omega,bs]
 have hWm: ∀y∈W,y∈ER p s k:=fun y hy=>Sr hp h7 (gw y hy)
 by_cases h2:K=2
 ·subst h2
  have htwo:Nt (ER p s k)=true:=by
   have m0:at' W 0∈W:=at_mem (by omega)
   have m1:at' W 1∈W:=at_mem (by omega)
   have hdis: ∀x∈at' W 0,x ∉ at' W 1:=by
    unfold List.Nodup at gf
    rw [List.pairwise_flatten]at gf
    have:=(eK.1 gf.2) 0 1 (by omega) (by omega) (by omega)
    rw [<-bZ (by omega),<-bZ (by omega)]at this
    exact fun x hx hx1=>this x hx x hx1 rfl
   obtain⟨i,hi,ei⟩:=dX (hWm _ m0)
   obtain⟨j,hj,ej⟩:=dX (hWm _ m1)
   have hne: ∃x,x∈at' W 0:=by
    obtain⟨q,b,l',e,_⟩:=gw _ m0
    exact⟨_,by rw [e];exact cw⟩
   obtain⟨x,hx⟩:=hne
   have hij:i≠j:=fun e=>by
    subst e
    exact hdis x hx (by rw [<-ej,ei];exact hx)
   unfold Nt
   rw [c_]
   by_cases hlt:j<i
   ·refine⟨i,c9.2 hi,c_.2 ⟨j,c9.2 hlt,CB.2 ?_⟩⟩
    rw [ei,ej];exact hdis
   ·refine⟨j,c9.2 hj,c_.2 ⟨i,c9.2 (by omega),CB.2 ?_⟩⟩
    rw [ei,ej];exact fun z hz hz0=>hdis z hz0 hz
  rw [htwo];rfl
 ·have hno:Nt (ER p s k)=false:=by
   cases ht:Nt (ER p s k)with
   |false=>rfl
   |true=>
    unfold Nt at ht
    rw [c_]at ht
    obtain⟨i,hi,ht⟩:=ht
    obtain⟨j,hj,ht⟩:=c_.1 ht
    have hi:=c9.1 hi;have hj:=c9.1 hj
    have wi:=(Ac hp (at_mem hi)).1
    have wj:=(Ac hp (at_mem (l:=ER p s k) (i:=j) (by omega))).1
    by_cases h1:K=1
    ·have hc:=g1 h1
     obtain⟨x,hx⟩: ∃x,x∈vo p s k:=by
      cases hcc:vo p s k with
      |nil=>exact absurd hcc hc
      |cons x r=>exact⟨x,cw⟩
     exact absurd (K3 hp hs hk hx wj) (CB.1 ht x (K3 hp hs hk hx wi))
    ·have:=g0.1 (by omega)
     rw [(xL hp hs hk).2 (Pt hp wi)]at this;cases this
  rw [hno,bu]
  dsimp only
  congr 2
  by_cases h1:K=1
  ·subst h1
   have:0<(ER p s k).length:=List.length_pos_of_mem (hWm _ (at_mem (l:=W) (i:=0) (by omega)))
   split<;>omega
  ·have h0:K=0:=by omega
   subst h0
   have:(ER p s k).length=0:=by
    cases hA:ER p s k with
    |nil=>rfl
    |cons y r=>
     have:=g0.1 rfl
     rw [(xL hp hs hk).2 (Pt hp (Ac hp (k:=k) (s:=s) (by rw [hA];exact cw)).1)]at this;cases this
   rw [this];rfl
end
def vw (p:ah) (s:State) (b:Int) (x:Part):Bool:=decide (x.kind=3) && decide (0<=x.index) && decide (x.index<(p.ae.length:Int)) && dD p s x.index.toNat && (decide ((at' p.ae x.index.toNat).a=b)||decide ((at' p.ae x.index.toNat).b=b))
def stepG (p:ah) (s:State) (b:Int) (met:List Int) (x y:Part):Bool:=vw p s b x && decide (y=⟨1,ku p x.index.toNat b⟩) && !decide (ku p x.index.toNat b∈met)
def Sy (p:ah) (s:State):Int->List Int->List Part->Ex Int Bool
 |b,_,[]=> .brk b
 |_,_,[_]=> .ret false
 |b,met,x::y::r=>bif stepG p s b met x y then Sy p s (ku p x.index.toNat b) (met++[ku p x.index.toNat b]) r else .ret false
def Nl (p:ah) (s:State) (k:Nat) (b:Int) (met:List Int) (r:List Part):Bool:=match Sy p s b met r with| .ret v=>v| .brk c=>Hr p k c
def wM (p:ah) (s:State) (k:Nat):List Part->Bool
 |x::y::r=>decide (x.kind=2) && decide (0<=x.index) && decide (x.index<(p.aa.length:Int)) && bY p s x.index.toNat && decide (y=⟨1,(at' p.aa x.index.toNat).bus⟩) && Nl p s k (at' p.aa x.index.toNat).bus [(at' p.aa x.index.toNat).bus] r
 |_=>false
theorem KA {p:ah} {s:State}: ∀(b:Int) (met:List Int) (r:List Part),r.length % 2=1->Sy p s b met r= .ret false
 |_,_,[],h=>by simp at h
 |_,_,[_],_=>rfl
 |b,met,x::y::r,h=>by
  unfold Sy
  cases stepG p s b met x y with
  |false=>rfl
  |true=>exact KA _ _ r (by simp only [c7]at h;omega)
theorem qI {p:ah} {s:State} {b:Int} {x:Part}:vw p s b x=true↔ ∃m:Nat,m<p.ae.length/\x=⟨3,(m:Int)⟩/\dD p s m=true/\((at' p.ae m).a=b\/(at' p.ae m).b=b):=by
 unfold vw
 simp only [ce,cQ,dj]
 constructor
 ·rintro ⟨⟨⟨⟨h1,h2⟩,h3⟩,h4⟩,h5⟩
  obtain⟨c,i⟩:=x
  dsimp only at*
  exact⟨i.toNat,by omega,by rw [h1];congr 1;omega,h4,h5⟩
 ·rintro ⟨m,hm,rfl,h4,h5⟩
  exact⟨⟨⟨⟨rfl,by dsimp only;omega⟩,by dsimp only;omega⟩,h4⟩,h5⟩
section
variable {p:ah} {s:State} (hp:VP p) (hs:VS p s) {k:Nat}
include hp hs
theorem NQ {l:List Part} (hl:l.length<=10000) {b:Int} (hb:0<=b/\b<p.ap) {i:Nat} {met:List Int} {x y:Part} (hi:i+1<l.length) (e1:at' l i=x) (e2:at' l (i+1)=y) (hm:met.length<=10000):
  bV p s l (b,met,(i:Int))=some (bif stepG p s b met x y then .next (ku p x.index.toNat b,met++[ku p x.index.toNat b],((i+2:Nat):Int))else .done (.ret false)):=by
 have hbb:=hp.b;have hll:=hp.ll
 have c1:=hs.aq;have c2:=hs.am;have c3:=hs.al
 have ei:(IntKind.wrap .i64 ((i:Int)+1)).toNat=i+1:=by rw [wr (by omega)];omega
 obtain⟨xk,xi⟩:=x
 unfold bV
 dsimp only
 rw [sM (by omega),bt,ai ⟨by omega,by omega⟩,bw,e1]
 dsimp only
 by_cases h3:xk=3/\0<=xi/\xi<(p.ae.length:Int)
 ·obtain⟨rfl,h4,h5⟩:=h3
  obtain⟨m,rfl⟩:=Int.eq_ofNat_of_zero_le h4
  have hm1:(0:Int)<=(m:Int)/\(m:Int)<(p.ae.length:Int):=⟨by omega,by omega⟩
  have l2:=hp.lnk m (by omega);have la:=l2.a;have lb:=l2.b
  rw [bz rfl,b_ (show ¬ (m:Int)<0 by omega),b_ (show ¬ (p.ae.length:Int)<=(m:Int) by omega),ai hm1,bw]
  rw [ai ⟨⟨by omega,by omega⟩,fun _=> ⟨by omega,by omega⟩,fun _=> ⟨by omega,by omega⟩,fun _=> ⟨by omega,by omega⟩⟩,ei,e2]
  have ec:(bif (bif (bif (bif (!(at' s.aq m))then true else(at' s.am m))then true else(at' s.al (at' p.ae m).a.toNat))then true else(at' s.al (at' p.ae m).b.toNat))then true else(bif (!decide ((at' p.ae m).a=b))then(!decide ((at' p.ae m).b=b))else false))= !vw p s b ⟨3,(m:Int)⟩:=by
   unfold vw dD
   dsimp only
   rw [bz rfl,bz hm1.1,bz hm1.2,bw]
   cases at' s.aq m<;>cases at' s.am m<;>cases at' s.al (at' p.ae m).a.toNat<;>cases at' s.al (at' p.ae m).b.toNat<;>cases decide ((at' p.ae m).a=b)<;>cases decide ((at' p.ae m).b=b)<;>rfl
  show(bif _ then _ else _)=_
  have eS:stepG p s b met ⟨3,(m:Int)⟩ y=(vw p s b ⟨3,(m:Int)⟩ && decide (y=⟨1,ku p m b⟩) && !decide (ku p m b∈met)):=rfl
  rw [ec,eS]
  cases hg:vw p s b ⟨3,(m:Int)⟩with
  |false=>rfl
  |true=>
   obtain⟨m',hm',em,_,hab⟩:=qI.1 hg
   have:m'=m:=by cases em;rfl
   subst this
   have esum:IntKind.wrap .i64 (IntKind.wrap .i64 ((at' p.ae m').a+(at' p.ae m').b) - b)=ku p m' b:=by
    unfold ku
    rw [wr (x:=(at' p.ae m').a+(at' p.ae m').b) (by omega),wr (by rcases hab with q|q<;>omega)]
   rw [cE,bu,esum,cR]
   have ey:((decide (y.kind=1)) && ((decide (y.index=ku p m' b)) && true))=decide (y=⟨1,ku p m' b⟩):=by
    obtain⟨c,d⟩:=y
    rw [Bool.eq_iff_iff];simp
   rw [ey]
   have hwi:(0:Int)<=IntKind.wrap .i64 ((i:Int)+1)/\IntKind.wrap .i64 ((i:Int)+1)<(l.length:Int):=by rw [wr (by omega)];omega
   cases hy:decide (y=⟨1,ku p m' b⟩)with
   |false=>
    rw [show gB [(!false,false)]=false from rfl]
    show bC _ _=_
    rw [ai hwi]
    rfl
   |true=>
    rw [show gB [(!true,false)]=true from rfl]
    show Option.bind (di _ _) _=_
    rw [has_eq _ _ (by omega),bs,ai hwi,wr (x:=(i:Int)+2) (by omega)]
    cases decide (ku p m' b∈met)with
    |true=>rfl
    |false=>
     show bC _ _=_
     rw [ai ⟨by rw [cx];omega,by rw [cx];omega⟩]
     rfl
 ·have et:(bif (bif (!decide (xk=3))then true else(decide (xi<0)))then true else(decide ((p.ae.length:Int)<=xi)))=true:=by
   by_cases q1:xk=3
   ·by_cases q2:0<=xi
    ·rw [bz q1,b_ (show ¬ xi<0 by omega),bz (show(p.ae.length:Int)<=xi by omega)];rfl
    ·rw [bz q1,bz (show xi<0 by omega)];rfl
   ·rw [b_ q1];rfl
  have es:stepG p s b met ⟨xk,xi⟩ y=false:=by
   unfold stepG
   have:vw p s b ⟨xk,xi⟩=false:=by
    cases hg:vw p s b ⟨xk,xi⟩with
    |false=>rfl
    |true=>
     obtain⟨m,hm,em,_⟩:=qI.1 hg
     cases em
     exact absurd ⟨rfl,by omega,by omega⟩ h3
   rw [this];rfl
  rw [et,es];rfl
theorem P8 {b:Int} {met:List Int} {x y:Part} (h:stepG p s b met x y=true):0<=ku p x.index.toNat b/\ku p x.index.toNat b<p.ap:=by
 unfold stepG at h
 simp only [ce]at h
 obtain⟨m,hm,rfl,_,hab⟩:=qI.1 h.1.1
 have l2:=hp.lnk m hm;have la:=l2.a;have lb:=l2.b
 unfold ku
 dsimp only
 rw [bw]
 rcases hab with q|q<;>omega
theorem G7 {l:List Part} (hl:l.length<=10000): ∀(r:List Part) (b:Int) (met:List Int) (i:Nat),(0<=b/\b<p.ap)->l.drop i=r->r.length % 2=0->met.length+r.length<=10000-> ∀n,r.length+1<=n->ay (bV p s l) n (b,met,(i:Int))=some (Sy p s b met r)
 |[],b,met,i,hb,hd,_,_,n,hn=>by
  obtain⟨n,rfl⟩: ∃m,n=m+1:=⟨n - 1,by omega⟩
  have:l.length<=i:=by
   refine cP fun q=> ?_
   rw [List.drop_eq_getElem_cons (by omega)]at hd;cases hd
  rw [aM]
  unfold bV
  dsimp only
  rw [ji (by omega),bu];rfl
 |[_],b,met,i,hb,hd,h,_,n,hn=>by simp at h
 |x::y::r,b,met,i,hb,hd,h,hlen,n,hn=>by
  obtain⟨n,rfl⟩: ∃m,n=m+1:=⟨n - 1,by omega⟩
  obtain⟨i1,e1,hd1⟩:=drop_at hd
  obtain⟨i2,e2,hd2⟩:=drop_at hd1
  simp only [c7]at h hlen hn
  rw [aM,NQ hp hs hl hb i2 e1 e2 (by omega)]
  unfold Sy
  cases hg:stepG p s b met x y with
  |false=>rfl
  |true=>
   rw [bt,bt]
   exact G7 hl r _ _ (i+2) (P8 hp hs hg) hd2 (by omega) (by simp;omega) n (by omega)
theorem Tj (hk:k<p.a_.length) (l:List Part) (hl:l.length<=10000):fE p s (k:Int) l=some (wM p s k l):=by
 have hbb:=hp.b;have hsl:=hp.sl
 have c1:=hs.on;have c2:=hs.ag;have c3:=hs.al
 have hg0: ∀(a:Prop) [Decidable a], ¬ a->(gB [(decide a,false)]=true):=fun a _ h=>by rw [b_ h];rfl
 match l,hl with
 |[],_=>unfold fE;rfl
 |[x],_=>unfold fE;rfl
 |x::y::r,hl=>
  obtain⟨xk,xi⟩:=x
  have hlen:(((⟨xk,xi⟩:Part)::y::r).length:Int)=(r.length:Int)+2:=by simp only [c7];omega
  have z0:at' ((⟨xk,xi⟩:Part)::y::r) 0=⟨xk,xi⟩:=rfl
  have z1:at' ((⟨xk,xi⟩:Part)::y::r) 1=y:=rfl
  have hdr:((⟨xk,xi⟩:Part)::y::r).drop 2=r:=rfl
  have hrl:r.length+2<=10000:=hl
  unfold fE
  rw [show wM p s k (⟨xk,xi⟩::y::r)=(decide (xk=2) && decide (0<=xi) && decide (xi<(p.aa.length:Int)) && bY p s xi.toNat && decide (y=⟨1,(at' p.aa xi.toNat).bus⟩) && Nl p s k (at' p.aa xi.toNat).bus [(at' p.aa xi.toNat).bus] r)from rfl]
  generalize ((⟨xk,xi⟩:Part)::y::r)=L at*
  rw [z0,z1,hlen]
  dsimp only
  have hin:(0:Int)<=0/\0<(r.length:Int)+2:=⟨by omega,by omega⟩
  rw [ai ⟨fun _=>by decide,fun _=>hin,fun _=>hin,fun _=>hin⟩,b_ (show ¬ (r.length:Int)+2<2 by omega)]
  by_cases hev:r.length % 2=0
  ·have hmod:Int.tmod ((r.length:Int)+2) 2=0:=by rw [Int.tmod_eq_emod_of_nonneg (by omega)];omega
   rw [bz hmod]
   by_cases h3:xk=2/\0<=xi/\xi<(p.aa.length:Int)
   ·obtain⟨rfl,h4,h5⟩:=h3
    obtain⟨j,rfl⟩:=Int.eq_ofNat_of_zero_le h4
    have hbr:=(hp.src j (by omega)).bus
    have hj1:(0:Int)<=(j:Int)/\(j:Int)<(p.aa.length:Int):=⟨by omega,by omega⟩
    rw [bz rfl,bz h4,bz h5,b_ (show ¬ (j:Int)<0 by omega),b_ (show ¬ (p.aa.length:Int)<=(j:Int) by omega),bw]
    show bC _ (bC _ (bC _ _))=_
    rw [ai hin,ai hj1,ai ⟨⟨by omega,by omega⟩,fun _=> ⟨by omega,by omega⟩,fun _=> ⟨by omega,by omega⟩,fun _=> ⟨by omega,by omega⟩⟩]
    have ec:(bif (bif (bif (!(at' s.on_ j))then true else(at' s.ag j))then true else(at' s.al (at' p.aa j).bus.toNat))then true else(!((decide (y.kind=1)) && ((decide (y.index=(at' p.aa j).bus)) && true))))= !(bY p s j && decide (y=⟨1,(at' p.aa j).bus⟩)):=by
     have ey:((decide (y.kind=1)) && ((decide (y.index=(at' p.aa j).bus)) && true))=decide (y=⟨1,(at' p.aa j).bus⟩):=by
      obtain⟨c,d⟩:=y
      rw [Bool.eq_iff_iff];simp
     rw [ey]
     unfold bY
     cases at' s.on_ j<;>cases at' s.ag j<;>cases at' s.al (at' p.aa j).bus.toNat<;>cases decide (y=⟨1,(at' p.aa j).bus⟩)<;>rfl
    rw [ec]
    cases hf:bY p s j && decide (y=⟨1,(at' p.aa j).bus⟩)with
    |false=>
     rw [show(true && true && true && bY p s j && decide (y=⟨1,(at' p.aa j).bus⟩) && Nl p s k (at' p.aa j).bus [(at' p.aa j).bus] r)=(bY p s j && decide (y=⟨1,(at' p.aa j).bus⟩) && Nl p s k (at' p.aa j).bus [(at' p.aa j).bus] r) by simp,hf];rfl
    |true=>
     rw [show(true && true && true && bY p s j && decide (y=⟨1,(at' p.aa j).bus⟩) && Nl p s k (at' p.aa j).bus [(at' p.aa j).bus] r)=(bY p s j && decide (y=⟨1,(at' p.aa j).bus⟩) && Nl p s k (at' p.aa j).bus [(at' p.aa j).bus] r) by simp,hf,cR,cE,bu]
     have hrun:=G7 hp hs (l:=L) (by omega) r (at' p.aa j).bus [(at' p.aa j).bus] 2 hbr hdr hev (by simp;omega) FUEL (by unfold FUEL;omega)
     have hrun:ay (bV p s L) FUEL ((at' p.aa j).bus,[(at' p.aa j).bus],2)=_:=hrun
     rw [hrun,bs]
     unfold Nl
     cases Sy p s (at' p.aa j).bus [(at' p.aa j).bus] r with
     |ret v=>rfl
     |brk c=>
      dsimp only
      rw [has_eq _ _ (by simp),bs,ai ⟨by omega,by omega⟩]
      congr 1
      unfold Hr
      rw [Bool.eq_iff_iff]
      rw [dg,cQ,dg,dg,eA,cH]
      exact⟨fun h=>h.imp Eq.symm Eq.symm,fun h=>h.imp Eq.symm Eq.symm⟩
   ·have et:(bif (bif (bif (bif false then true else !true)then true else !decide (xk=2))then true else decide (xi<0))then true else decide ((p.aa.length:Int)<=xi))=true:=by
     by_cases q1:xk=2
     ·by_cases q2:0<=xi
      ·rw [bz q1,b_ (show ¬ xi<0 by omega),bz (show(p.aa.length:Int)<=xi by omega)];rfl
      ·rw [bz q1,bz (show xi<0 by omega)];rfl
     ·rw [b_ q1];rfl
    rw [et,bt]
    congr 1
    by_cases q1:xk=2
    ·by_cases q2:0<=xi
     ·rw [b_ (show ¬ xi<(p.aa.length:Int) by omega)];simp
     ·rw [b_ q2];simp
    ·rw [b_ q1];rfl
  ·have hmod: ¬ Int.tmod ((r.length:Int)+2) 2=0:=by rw [Int.tmod_eq_emod_of_nonneg (by omega)];omega
   rw [b_ hmod]
   show some false=_
   have:Nl p s k (at' p.aa xi.toNat).bus [(at' p.aa xi.toNat).bus] r=false:=by
    unfold Nl
    rw [KA _ _ r (by omega)]
   rw [this,Bool.and_false]
theorem KM {l:List Part} (hl:l.length<=10000) {b:Int} (hb:0<=b/\b<p.ap) {i:Nat} {met:List Int} {x y:Part} (hi:i+1<l.length) (h2:2<=i/\i % 2=0) (e1:at' l i=x) (e2:at' l (i+1)=y) (hmet: ∀c,(⟨1,c⟩:Part)∈nW l 0 i↔c∈met) (n:Nat):
  ay (bH p s l) (n+2) (b,(i:Int))=(bif stepG p s b met x y then ay (bH p s l) n (ku p x.index.toNat b,((i+2:Nat):Int))else some (.ret false)):=by
 have hbb:=hp.b;have hll:=hp.ll
 obtain⟨xk,xi⟩:=x
 have t0: ¬ Int.tmod (i:Int) 2=1:=by rw [Int.tmod_eq_emod_of_nonneg (by omega)];omega
 have t1:Int.tmod ((i+1:Nat):Int) 2=1:=by rw [Int.tmod_eq_emod_of_nonneg (by omega)];omega
 have S1:bH p s l (b,(i:Int))=some (bif vw p s b ⟨xk,xi⟩then .next (ku p xi.toNat b,((i+1:Nat):Int))else .done (.ret false)):=by
  unfold bH
  dsimp only
  rw [sM (by omega),bt,ai ⟨by omega,by omega⟩,b_ (show ¬ (i:Int)=0 by omega),bu,ai (by decide),b_ t0,bu,bw,e1]
  dsimp only
  by_cases h3:xk=3/\0<=xi/\xi<(p.ae.length:Int)
  ·obtain⟨rfl,h4,h5⟩:=h3
   obtain⟨m,rfl⟩:=Int.eq_ofNat_of_zero_le h4
   have hm1:(0:Int)<=(m:Int)/\(m:Int)<(p.ae.length:Int):=⟨by omega,by omega⟩
   have l2:=hp.lnk m (by omega);have la:=l2.a;have lb:=l2.b
   rw [bz rfl,b_ (show ¬ (m:Int)<0 by omega),b_ (show ¬ (p.ae.length:Int)<=(m:Int) by omega)]
   rw [show gB [((bif (bif (!true)then true else false)then true else false),false)]=true from rfl,bt,uF hp hs (by omega),bs]
   unfold vw
   dsimp only
   rw [bz rfl,bz hm1.1,bz hm1.2,bw]
   show(bif _ then _ else _)=_
   cases dD p s m with
   |false=>rfl
   |true=>
    show bC _ _=_
    rw [ai hm1]
    by_cases hab:(at' p.ae m).a=b\/(at' p.ae m).b=b
    ·have esum:IntKind.wrap .i64 (IntKind.wrap .i64 ((at' p.ae m).a+(at' p.ae m).b) - b)=ku p m b:=by
      unfold ku
      rw [wr (x:=(at' p.ae m).a+(at' p.ae m).b) (by omega),wr (by rcases hab with q|q<;>omega)]
     rw [esum,wr (x:=(i:Int)+1) (by omega)]
     rcases hab with q|q
     ·rw [bz q];rfl
     ·rw [bz q];cases decide ((at' p.ae m).a=b)<;>rfl
    ·rw [b_ (fun q=>hab (.inl q)),b_ (fun q=>hab (.inr q))];rfl
  ·have et:(bif (bif (!decide (xk=3))then true else(decide (xi<0)))then true else(decide ((p.ae.length:Int)<=xi)))=true:=by
    by_cases q1:xk=3
    ·by_cases q2:0<=xi
     ·rw [bz q1,b_ (show ¬ xi<0 by omega),bz (show(p.ae.length:Int)<=xi by omega)];rfl
     ·rw [bz q1,bz (show xi<0 by omega)];rfl
    ·rw [b_ q1];rfl
   have:vw p s b ⟨xk,xi⟩=false:=by
    cases hg:vw p s b ⟨xk,xi⟩with
    |false=>rfl
    |true=>
     obtain⟨m,hm,em,_⟩:=qI.1 hg
     cases em
     exact absurd ⟨rfl,by omega,by omega⟩ h3
   rw [et,this];rfl
 rw [aM,S1]
 unfold stepG
 cases hg:vw p s b ⟨xk,xi⟩with
 |false=>rfl
 |true=>
  obtain⟨m,hm,em,_⟩:=qI.1 hg
  cases em
  rw [bt,cR]
  dsimp only
  rw [aM]
  have S2:bH p s l (ku p (m:Int).toNat b,((i+1:Nat):Int))=some (bif decide (y=⟨1,ku p (m:Int).toNat b⟩) && !decide (ku p (m:Int).toNat b∈met)then .next (ku p (m:Int).toNat b,((i+2:Nat):Int))else .done (.ret false)):=by
   unfold bH
   dsimp only
   rw [sM (by omega),bt,ai ⟨by omega,by omega⟩,b_ (show ¬ ((i+1:Nat):Int)=0 by omega),bu,ai (by decide),bz t1,bt,bw (i+1),e2]
   have ey:(bif (!decide (y.kind=1))then true else(!decide (y.index=ku p (m:Int).toNat b)))= !decide (y=⟨1,ku p (m:Int).toNat b⟩):=by
    obtain⟨c,d⟩:=y
    rw [Bool.eq_iff_iff];simp [uZ]
   rw [ey]
   have hcut: ∀y:Part,y=⟨1,ku p (m:Int).toNat b⟩->decide (y∈nW l 0 (i+1))=decide (ku p (m:Int).toNat b∈met):=fun y hy=>by
    subst hy
    rw [decide_eq_decide,<-hmet]
    have:nW l 0 (i+1)=nW l 0 i++[at' l i]:=by
     refine zK (by rw [fI,cd,fI];rfl) fun q hq=> ?_
     rw [fI]at hq
     rw [vF _ _ _ _ hq]
     by_cases hqi:q<i
     ·rw [Ab (by rw [fI];exact hqi),vF _ _ _ _ hqi]
     ·have:=O8 (nW l 0 i) (at' l i)
      rw [fI]at this
      rw [show q=i by omega,this,cD]
    rw [this,cA,e1]
    constructor
    ·rintro (q|q)
     ·exact q
     ·rw [cH]at q;cases q
    ·exact .inl
   by_cases hy:y=⟨1,ku p (m:Int).toNat b⟩
   ·rw [bz hy,show gB [(!true,false)]=true from rfl,bt,Kq _ _ (by rw [fI];omega),bs,ai (fun _=> ⟨by omega,by omega⟩),hcut y hy,wr (by omega)]
    cases decide (ku p (m:Int).toNat b∈met)<;>rfl
   ·rw [b_ hy,show gB [(!false,false)]=false from rfl,bu,bs,ai (fun h=>absurd h (by decide))];rfl
  rw [S2]
  cases(decide (y=⟨1,ku p (m:Int).toNat b⟩) && !decide (ku p (m:Int).toNat b∈met))<;>rfl
theorem PO {l:List Part} {i:Nat} (hi:i+1<l.length) (c:Int):(⟨1,c⟩:Part)∈nW l 0 (i+2)↔(⟨1,c⟩:Part)∈nW l 0 i\/(⟨1,c⟩:Part)=at' l i\/(⟨1,c⟩:Part)=at' l (i+1):=by
 have:nW l 0 (i+2)=nW l 0 i++[at' l i,at' l (i+1)]:=by
  refine zK (by rw [fI,cd,fI];rfl) fun q hq=> ?_
  rw [fI]at hq
  rw [vF _ _ _ _ hq,cD]
  by_cases hqi:q<i
  ·rw [Ab (by rw [fI];exact hqi),vF _ _ _ _ hqi,cD]
  ·have h1:=J9 (a:=nW l 0 i) (b:=[at' l i,at' l (i+1)]) (i:=q - i) (by simp;omega)
   rw [fI,show i+(q - i)=q by omega]at h1
   rw [h1]
   by_cases e:q=i
   ·subst e;rw [Nat.sub_self];rfl
   ·have:q=i+1:=by omega
    subst this
    rw [show i+1 - i=1 by omega];rfl
 rw [this,cA]
 simp
theorem Ey {l:List Part} (hl:l.length<=10000): ∀(r:List Part) (b:Int) (met:List Int) (i:Nat),(0<=b/\b<p.ap)->(2<=i/\i % 2=0)->l.drop i=r->r.length % 2=0->(∀c,(⟨1,c⟩:Part)∈nW l 0 i↔c∈met)-> ∀n,r.length+1<=n->ay (bH p s l) n (b,(i:Int))=some (Sy p s b met r)
 |[],b,met,i,hb,h2,hd,_,_,n,hn=>by
  obtain⟨n,rfl⟩: ∃m,n=m+1:=⟨n - 1,by omega⟩
  have:l.length<=i:=by
   refine cP fun q=> ?_
   rw [List.drop_eq_getElem_cons (by omega)]at hd;cases hd
  rw [aM]
  unfold bH
  dsimp only
  rw [ji (by omega),bu];rfl
 |[_],b,met,i,hb,h2,hd,h,_,n,hn=>by simp at h
 |x::y::r,b,met,i,hb,h2,hd,h,hmet,n,hn=>by
  simp only [c7]at h hn
  obtain⟨n,rfl⟩: ∃m,n=m+2:=⟨n - 2,by omega⟩
  obtain⟨i1,e1,hd1⟩:=drop_at hd
  obtain⟨i2,e2,hd2⟩:=drop_at hd1
  rw [KM hp hs hl hb i2 h2 e1 e2 hmet n]
  unfold Sy
  cases hg:stepG p s b met x y with
  |false=>rfl
  |true=>
   rw [bt,bt]
   refine Ey hl r _ _ (i+2) (P8 hp hs hg) ⟨by omega,by omega⟩ hd2 (by omega) (fun c=> ?_) n (by omega)
   unfold stepG at hg
   simp only [ce,dj]at hg
   obtain⟨m,hm,em,_⟩:=qI.1 hg.1.1
   rw [PO hp hs i2,hmet,e1,e2,em,hg.1.2,em,cA,cH]
   constructor
   ·rintro (q|q|q)
    ·exact .inl q
    ·cases q
    ·cases q;exact .inr rfl
   ·rintro (q|q)
    ·exact .inl q
    ·exact .inr (.inr (by rw [q]))
theorem Sj (hk:k<p.a_.length) (l:List Part) (hl:l.length<=10000):lJ p s (k:Int) l=some (wM p s k l):=by
 have hbb:=hp.b;have hsl:=hp.sl
 match l,hl with
 |[],_=>unfold lJ;rfl
 |[x],_=>
  unfold lJ
  rw [ai (fun _=>by decide)]
  rfl
 |x::y::r,hl=>
  obtain⟨xk,xi⟩:=x
  have hlen:(((⟨xk,xi⟩:Part)::y::r).length:Int)=(r.length:Int)+2:=by simp only [c7];omega
  have hlen':((⟨xk,xi⟩:Part)::y::r).length=r.length+2:=rfl
  have z0:at' ((⟨xk,xi⟩:Part)::y::r) 0=⟨xk,xi⟩:=rfl
  have z1:at' ((⟨xk,xi⟩:Part)::y::r) 1=y:=rfl
  have hdr:((⟨xk,xi⟩:Part)::y::r).drop 2=r:=rfl
  have hrl:r.length+2<=10000:=hl
  unfold lJ
  rw [show wM p s k (⟨xk,xi⟩::y::r)=(decide (xk=2) && decide (0<=xi) && decide (xi<(p.aa.length:Int)) && bY p s xi.toNat && decide (y=⟨1,(at' p.aa xi.toNat).bus⟩) && Nl p s k (at' p.aa xi.toNat).bus [(at' p.aa xi.toNat).bus] r)from rfl]
  generalize ((⟨xk,xi⟩:Part)::y::r)=L at*
  rw [hlen]
  rw [ai (fun _=>by decide),b_ (show ¬ (r.length:Int)+2=0 by omega)]
  by_cases hev:r.length % 2=0
  ·have hmod:Int.tmod ((r.length:Int)+2) 2=0:=by rw [Int.tmod_eq_emod_of_nonneg (by omega)];omega
   rw [bz hmod]
   show Option.bind _ _=_
   have S1:bH p s L (-1,0)=some (bif (decide (xk=2) && decide (0<=xi) && decide (xi<(p.aa.length:Int)) && bY p s xi.toNat)then .next ((at' p.aa xi.toNat).bus,1)else .done (.ret false)):=by
    unfold bH
    dsimp only
    rw [sM (by omega),bt,ai ⟨by omega,by omega⟩,bz rfl,bt,show at' L (0:Int).toNat=⟨xk,xi⟩from z0]
    dsimp only
    by_cases h3:xk=2/\0<=xi/\xi<(p.aa.length:Int)
    ·obtain⟨rfl,h4,h5⟩:=h3
     obtain⟨j,rfl⟩:=Int.eq_ofNat_of_zero_le h4
     rw [bz rfl,bz h4,bz h5,b_ (show ¬ (j:Int)<0 by omega),b_ (show ¬ (p.aa.length:Int)<=(j:Int) by omega),bw]
     rw [show gB [((bif (bif (!true)then true else false)then true else false),false)]=true from rfl,bt,zo hp hs (by omega),bs]
     cases bY p s j with
     |false=>rfl
     |true=>
      show bC _ _=_
      rw [ai ⟨by omega,by omega⟩];rfl
    ·have et:(bif (bif (!decide (xk=2))then true else decide (xi<0))then true else decide ((p.aa.length:Int)<=xi))=true:=by
      by_cases q1:xk=2
      ·by_cases q2:0<=xi
       ·rw [bz q1,b_ (show ¬ xi<0 by omega),bz (show(p.aa.length:Int)<=xi by omega)];rfl
       ·rw [bz q1,bz (show xi<0 by omega)];rfl
      ·rw [b_ q1];rfl
     rw [et]
     have:(decide (xk=2) && decide (0<=xi) && decide (xi<(p.aa.length:Int)) && bY p s xi.toNat)=false:=by
      by_cases q1:xk=2
      ·by_cases q2:0<=xi
       ·rw [b_ (show ¬ xi<(p.aa.length:Int) by omega)];simp
       ·rw [b_ q2];simp
      ·rw [b_ q1];rfl
     rw [this];rfl
   obtain⟨N,hN⟩: ∃N,FUEL=N+2/\20000<=N:=⟨FUEL - 2,by unfold FUEL;omega,by unfold FUEL;omega⟩
   rw [hN.1,aM,S1]
   cases hc:(decide (xk=2) && decide (0<=xi) && decide (xi<(p.aa.length:Int)) && bY p s xi.toNat)with
   |false=>rfl
   |true=>
    simp only [ce,dj]at hc
    obtain⟨⟨⟨rfl,h4⟩,h5⟩,hf⟩:=hc
    obtain⟨j,rfl⟩:=Int.eq_ofNat_of_zero_le h4
    have hbr:=(hp.src j (by omega)).bus
    rw [bt,cR,bw]
    dsimp only
    have S2:bH p s L ((at' p.aa j).bus,1)=some (bif decide (y=⟨1,(at' p.aa j).bus⟩)then .next ((at' p.aa j).bus,2)else .done (.ret false)):=by
     unfold bH
     dsimp only
     rw [sM (by omega),bt,ai ⟨by omega,by omega⟩,b_ (by decide),bu,ai (by decide),bz (show Int.tmod 1 2=1 by decide),bt,show at' L (1:Int).toNat=y from z1]
     have ey:(bif (!decide (y.kind=1))then true else(!decide (y.index=(at' p.aa j).bus)))= !decide (y=⟨1,(at' p.aa j).bus⟩):=by
      obtain⟨c,d⟩:=y
      rw [Bool.eq_iff_iff];simp [uZ]
     rw [ey]
     by_cases hy:y=⟨1,(at' p.aa j).bus⟩
     ·have hn:decide (y∈nW L 0 (1:Int).toNat)=false:=by
       refine b_ fun hm=> ?_
       obtain⟨q,hq,e⟩:=dX hm
       rw [fI]at hq
       rw [vF _ _ _ _ hq,show 0+q=0 by have:(1:Int).toNat=1:=rfl;omega,z0,hy]at e
       cases e
      rw [bz hy,show gB [(!true,false)]=true from rfl,bt,Kq _ _ (by rw [fI];decide),bs,hn,ai (fun _=> ⟨by omega,by omega⟩)];rfl
     ·rw [b_ hy,show gB [(!false,false)]=false from rfl,bu,bs,ai (fun h=>absurd h (by decide))];rfl
    rw [aM,S2]
    by_cases hy:y=⟨1,(at' p.aa j).bus⟩
    ·rw [bz hy,bt,cR]
     dsimp only
     have hrun:=Ey hp hs (l:=L) (by omega) r (at' p.aa j).bus [(at' p.aa j).bus] 2 hbr ⟨by omega,by omega⟩ hdr hev (fun c=>by
      have:=PO hp hs (l:=L) (i:=0) (by omega) c
      rw [show(0+2:Nat)=2 from rfl]at this
      rw [this,z0,show at' L (0+1)=y from z1,hy,cH]
      have:nW L 0 0=[]:=List.eq_nil_of_length_eq_zero (fI L 0 0)
      rw [this]
      constructor
      ·rintro (q|q|q)
       ·cases q
       ·cases q
       ·cases q;rfl
      ·exact fun q=> .inr (.inr (by rw [q]))) N (by omega)
     have hrun:ay (bH p s L) N ((at' p.aa j).bus,2)=_:=hrun
     rw [hrun,bs]
     unfold Nl
     cases Sy p s (at' p.aa j).bus [(at' p.aa j).bus] r with
     |ret v=>rfl
     |brk c=>
      dsimp only
      rw [Ph p hk];rfl
    ·rw [b_ hy];rfl
  ·have hmod: ¬ Int.tmod ((r.length:Int)+2) 2=0:=by rw [Int.tmod_eq_emod_of_nonneg (by omega)];omega
   rw [b_ hmod]
   show some false=_
   have:Nl p s k (at' p.aa xi.toNat).bus [(at' p.aa xi.toNat).bus] r=false:=by
    unfold Nl
    rw [KA _ _ r (by omega)]
   rw [this,Bool.and_false]
end
section
variable {p:ah} {s:State} {k:Nat}
theorem IB: ∀(r:List Part) (b:Int) (met:List Int),b∈met->Nl p s k b met r=true->r.Nodup/\ ∀z∈r,(z.kind=1/\z.index ∉ met)\/(z.kind=3/\ ¬ ((at' p.ae z.index.toNat).a∈met/\(at' p.ae z.index.toNat).b∈met))
 |[],b,met,_,_=> ⟨List.nodup_nil,fun _ h=>(by cases h)⟩
 |[_],b,met,_,h=>by unfold Nl Sy at h;cases h
 |x::y::r,b,met,hb,h=>by
  unfold Nl Sy at h
  cases hg:stepG p s b met x y with
  |false=>rw [hg]at h;cases h
  |true=>
   rw [hg,bt]at h
   unfold stepG at hg
   simp only [ce,dj,dd,de]at hg
   obtain⟨⟨g1,rfl⟩,g3⟩:=hg
   obtain⟨m,hm,rfl,_,hab⟩:=qI.1 g1
   dsimp only at h g3 ⊢
   rw [bw]at h g3 ⊢
   obtain⟨i1,i2⟩:=IB r (ku p m b) (met++[ku p m b]) (by simp) h
   have hends:(at' p.ae m).a∈met++[ku p m b]/\(at' p.ae m).b∈met++[ku p m b]:=by
    have:(at' p.ae m).a=b/\(at' p.ae m).b=ku p m b\/(at' p.ae m).b=b/\(at' p.ae m).a=ku p m b:=by unfold ku;omega
    rcases this with⟨q1,q2⟩|⟨q1,q2⟩
    ·rw [q1,q2];simp [hb]
    ·rw [q1,q2];simp [hb]
   have hnot: ¬ ((at' p.ae m).a∈met/\(at' p.ae m).b∈met):=by
    have:(at' p.ae m).a=b/\(at' p.ae m).b=ku p m b\/(at' p.ae m).b=b/\(at' p.ae m).a=ku p m b:=by unfold ku;omega
    rcases this with⟨q1,q2⟩|⟨q1,q2⟩
    ·rw [q1,q2];exact fun z=>g3 z.2
    ·rw [q1,q2];exact fun z=>g3 z.1
   refine⟨?_,fun z hz=> ?_⟩
   ·rw [cC,cC]
    refine⟨fun q=> ?_,fun q=> ?_,i1⟩
    ·rcases eA.1 q with q|q
     ·cases q
     ·rcases i2 _ q with⟨q,_⟩|⟨_,q⟩
      ·cases q
      ·dsimp only at q;rw [bw]at q;exact q hends
    ·rcases i2 _ q with⟨_,q⟩|⟨q,_⟩
     ·exact q (by simp)
     ·cases q
   ·rcases eA.1 hz with rfl|hz
    ·exact .inr ⟨rfl,by dsimp only;rw [bw];exact hnot⟩
    ·rcases eA.1 hz with rfl|hz
     ·exact .inl ⟨rfl,g3⟩
     ·rcases i2 z hz with⟨q1,q2⟩|⟨q1,q2⟩
      ·exact .inl ⟨q1,fun q=>q2 (cA.2 (.inl q))⟩
      ·exact .inr ⟨q1,fun q=>q2 ⟨cA.2 (.inl q.1),cA.2 (.inl q.2)⟩⟩
theorem NU {l:List Part} (h:wM p s k l=true):l.Nodup:=by
 match l,h with
 |[],h=>cases h
 |[_],h=>cases h
 |x::y::r,h=>
  unfold wM at h
  simp only [ce,dj]at h
  obtain⟨⟨⟨⟨⟨h1,h2⟩,h3⟩,h4⟩,rfl⟩,h6⟩:=h
  obtain⟨i1,i2⟩:=IB r _ _ (by simp) h6
  rw [cC,cC]
  refine⟨fun q=> ?_,fun q=> ?_,i1⟩
  ·rcases eA.1 q with q|q
   ·rw [q]at h1;cases h1
   ·rcases i2 _ q with⟨q,_⟩|⟨q,_⟩<;>omega
  ·rcases i2 _ q with⟨_,q⟩|⟨q,_⟩
   ·exact q (by simp)
   ·cases q
end
def Zu (p:ah) (s:State) (k:Nat) (W:List (List Part)):Bool:=W.all (wM p s k) && decide W.flatten.Nodup
section
variable {p:ah} {s:State} (hp:VP p) (hs:VS p s) {k:Nat} (hk:k<p.a_.length)
include hp hs hk
theorem CZ {W:List (List Part)} (hn:W.length<=1000) (hl: ∀l∈W,l.length<=10000) (hlen:W.flatten.length<=100000):eO p s (k:Int) W=some (bif Zu p s k W then 0 else 7):=by
 have hc:dR W p.ap p.aa p.ae p.a_ s.aq s.aw s.am s.on_ s.ag s.ar s.al (k:Int)=some (W.any fun l=> !wM p s k l):=by
  unfold dR iX
  rw [fH W (fun l=> !wM p s k l) id (by omega) (fun i hi=> ?_) ?_]
  ·rw [bs]
   refine Eq.trans ?_ (congrArg some (rJ W (fun l=> !wM p s k l)))
   cases W.findIdx? (fun l=> !wM p s k l)<;>rfl
  ·unfold eX
   rw [ji (by omega)];rfl
  ·unfold eX jV
   have:=Tj hp hs hk (at' W i) (hl _ (at_mem hi))
   have this:fE ⟨p.ap,p.aa,p.ae,p.a_⟩ ⟨s.aq,s.aw,s.am,s.on_,s.ag,s.ar,s.al⟩ (k:Int) (at' W i)=_:=this
   rw [sM (by omega),bt,bw,this,bs,bs,ai ⟨by omega,by omega⟩,wr (by omega)]
   exact kY _ _ _
 have hbad:((List.range W.flatten.length).any fun t=>(nW W.flatten 0 t).any (Vn (at' W.flatten t)))= !decide W.flatten.Nodup:=by
  generalize W.flatten=F
  rw [Bool.eq_iff_iff,c_,dd,de]
  unfold List.Nodup
  rw [eK]
  constructor
  ·rintro ⟨t,ht,h⟩ hnd
   have ht:=c9.1 ht
   obtain⟨x,hx,hq⟩:=c_.1 h
   have hq:=J3.1 hq
   obtain⟨i,hi,e⟩:=dX hx
   rw [fI]at hi
   rw [vF _ _ _ _ hi,cD,<-hq]at e
   refine hnd i t (by omega) ht hi ?_
   rw [<-bZ (by omega),<-bZ ht,e]
  ·intro h
   refine cP fun hno=>h fun i j hi hj hij e=>hno ⟨j,c9.2 hj,c_.2 ⟨at' F i, ?_,J3.2 ?_⟩⟩
   ·have:=at_mem (l:=nW F 0 j) (i:=i) (by rw [fI];exact hij)
    rwa [vF _ _ _ _ hij,cD]at this
   ·rw [bZ hi,bZ hj,e]
 have hL:ay (dh W.flatten) FUEL 0=some (bif !decide W.flatten.Nodup then .ret 7 else .brk ()):=by
  rw [<-hbad]
  refine tQ (List.range W.flatten.length) (fun t=>(nW W.flatten 0 t).any (Vn (at' W.flatten t))) (7:Int) (by rw [c8];omega) (fun t ht=> ?_) ?_
  ·rw [c8]at ht
   rw [at_range ht]
   unfold dh
   rw [sM (by omega),bt,ai ⟨by omega,by omega⟩,bw,Di _ _ (by rw [fI];omega),bs,ai ⟨by omega,by omega⟩,wr (by omega)]
   exact kY _ _ _
  ·rw [c8]
   unfold dh
   rw [ji (by omega)];rfl
 unfold eO
 rw [xG hp hs hk,bs,bz rfl,cE,bu,hc,bs]
 have hall:(W.any fun l=> !wM p s k l)= !W.all (wM p s k):=by rw [List.not_all_eq_any_not]
 unfold Zu
 rw [hall]
 cases W.all (wM p s k)with
 |false=>rfl
 |true=>
  rw [cE,bu,I9 W hn (by omega),bs,hL,bs,cR]
  cases decide W.flatten.Nodup<;>rfl
theorem yg {W:List (List Part)} (hn:W.length<=1000) (hl: ∀l∈W,l.length<=10000):fJ p s (k:Int) W=some (bif Zu p s k W then 0 else 7):=by
 have L1: ∀i,i<W.length->ay (jm W (i:Int)) FUEL 0=some (bif (List.range i).any (fun j=> !OB (at' W i) (at' W j))then .ret (aV.done (Ex.ret 7))else .brk ()):=fun i hi=>by
  refine tQ (List.range i) (fun j=> !OB (at' W i) (at' W j)) (aV.done (Ex.ret 7)) (by rw [c8];omega) (fun j hj=> ?_) ?_
  ·rw [c8]at hj
   rw [at_range hj]
   unfold jm
   have h1:=hl _ (at_mem hi);have h2:=hl _ (at_mem (l:=W) (i:=j) (by omega))
   rw [sM (by omega),bt,bw,bw,KO _ _ (by omega) (by omega),bs,ai ⟨⟨by omega,by omega⟩,by omega,by omega⟩,wr (by omega)]
   exact kY _ _ _
  ·rw [c8]
   unfold jm
   rw [ji (by omega)];rfl
 have key:ay (jh p s (k:Int) W) FUEL 0=some (bif (List.range W.length).any (fun i=> !wM p s k (at' W i)||(List.range i).any fun j=> !OB (at' W i) (at' W j))then .ret 7 else .brk ()):=by
  refine tQ (List.range W.length) (fun i=> !wM p s k (at' W i)||(List.range i).any fun j=> !OB (at' W i) (at' W j)) (7:Int) (by rw [c8];omega) (fun i hi=> ?_) ?_
  ·rw [c8]at hi
   rw [at_range hi]
   unfold jh
   rw [sM (by omega),bt,bw,Sj hp hs hk _ (hl _ (at_mem hi)),bs,ai ⟨by omega,by omega⟩,wr (by omega)]
   cases wM p s k (at' W i)with
   |false=>rfl
   |true=>
    rw [cE,bu,Bool.false_or,L1 i hi,bs]
    cases(List.range i).any fun j=> !OB (at' W i) (at' W j)<;>rfl
  ·rw [c8]
   unfold jh
   rw [ji (by omega)];rfl
 have hck:(List.range W.length).any (fun i=> !wM p s k (at' W i)||(List.range i).any fun j=> !OB (at' W i) (at' W j))= !Zu p s k W:=by
  unfold Zu
  rw [Bool.eq_iff_iff,c_,dd,Bool.and_eq_false_iff,de]
  constructor
  ·rintro ⟨i,hi,h⟩
   have hi:=c9.1 hi
   rw [cQ]at h
   rcases h with h|h
   ·left
    rw [List.all_eq_false]
    exact⟨at' W i,at_mem hi,by simpa using h⟩
   ·right
    intro hnd
    obtain⟨j,hj,h⟩:=c_.1 h
    have hj:=c9.1 hj
    unfold List.Nodup at hnd
    rw [List.pairwise_flatten]at hnd
    have:=(eK.1 hnd.2) j i (by omega) hi hj
    rw [<-bZ (by omega),<-bZ hi]at this
    rw [CB.2 fun x hx hy=>this x hy x hx rfl]at h
    cases h
  ·intro h
   refine cP fun hno=> ?_
   have hw: ∀i,i<W.length->wM p s k (at' W i)=true:=fun i hi=>by
    cases hb:wM p s k (at' W i)with
    |true=>rfl
    |false=>exact absurd ⟨i,c9.2 hi,by rw [hb];rfl⟩ hno
   have hd: ∀i j,i<W.length->j<i->OB (at' W i) (at' W j)=true:=fun i j hi hj=>by
    cases hb:OB (at' W i) (at' W j)with
    |true=>rfl
    |false=>exact absurd ⟨i,c9.2 hi,by rw [cQ];exact .inr (c_.2 ⟨j,c9.2 hj,by rw [hb];rfl⟩)⟩ hno
   rcases h with h|h
   ·rw [List.all_eq_false]at h
    obtain⟨l,hlm,h⟩:=h
    obtain⟨i,hi,e⟩:=dX hlm
    rw [<-e]at h
    exact h (hw i hi)
   ·refine h ?_
    unfold List.Nodup
    rw [List.pairwise_flatten]
    refine⟨fun l hlm=> ?_, ?_⟩
    ·obtain⟨i,hi,e⟩:=dX hlm
     rw [<-e];exact NU (hw i hi)
    ·rw [eK]
     intro i j hi hj hij x hx y hy e
     rw [<-bZ hi]at hx
     rw [<-bZ hj,<-e]at hy
     exact CB.1 (hd j i hj hij) x hy hx
 unfold fJ
 rw [BF hp hs hk,bs,bz rfl,cE,bu,key,hck,bs]
 cases Zu p s k W<;>rfl
theorem FV:iK p s (k:Int)=some (bif rQ p s k then vo p s k else [],0):=by
 have h72:=Ej (s:=s) hp
 unfold iK
 rw [BF hp hs hk,bs,bz rfl,cE,bu,Mx hp hs,bs]
 have hi: ∀x∈vM p s,kr p x:=fun x hx=>En hp hx
 have hfd:=EB hp hs hk
 unfold vo
 generalize vM p s=l at h72 hi
 cases hf:rQ p s k with
 |false=>
  rw [hf]at hfd
  have:ay (fP p s (k:Int) l) FUEL ([],0)=some (.brk []):=by
   refine gY (n:=1) ?_ (by unfold FUEL;omega)
   rw [aM]
   unfold fP
   dsimp only
   rw [hfd]
   by_cases h:(0:Int)<(l.length:Int)
   ·rw [bz h];rfl
   ·rw [b_ h];rfl
  rw [this];rfl
 |true=>
  rw [hf]at hfd
  rw [bt,Na (body:=fP p s (k:Int) l) l (fun x=> !rQ p (aU s x true) k) id [] (by omega) (fun t o ht ho=> ?_) (fun o=> ?_),bs,List.map_id,cY]
  ·simp only [List.length_nil,cD]at ho
   have hx:=hi _ (at_mem ht)
   unfold fP
   dsimp only
   rw [sM (by omega),hfd,show gB [(true,true)]=true from rfl,bt,bs,bt,bt,bw,Kn hp hs hx true,bs,ai ⟨by omega,by omega⟩]
   dsimp only
   rw [EB hp (VS.aU hs _ true) hk,bs,wr (by omega)]
   cases rQ p (aU s (at' l t) true) k with
   |true=>rfl
   |false=>
    rw [cF,bt,bt,ai ⟨⟨by omega,by omega⟩,by rw [cx];omega,by rw [cx];omega⟩]
    rfl
  ·unfold fP
   dsimp only
   rw [ji (by omega),show gB [(false,true)]=false from rfl,bu,bs];rfl
end
theorem RN (l:List (List Part)) (hn:l.length<=1000) (hl: ∀x∈l,x.length<=10000):sH l=some l:=by
 have key:=bI (body:=kX l) (fun t=>(l.take t,(t:Int))) l.length (.brk l) (fuel_lt (by omega)) (fun t ht=>by
  have:=hl _ (at_mem ht)
  unfold kX
  dsimp only
  rw [sM (by omega),bt,bw,Cm _ (by omega),bs,ai ⟨⟨by omega,by omega⟩,by rw [d8,cx];omega,by rw [d8,cx];omega⟩,wr (by omega),dA ht]
  rfl) (by
  unfold kX
  dsimp only
  rw [ji (by omega),ee];rfl)
 unfold sH
 have key:ay (kX l) FUEL ([],0)=_:=key
 rw [key];rfl
def vE (p:ah) (s:State) (r:Int):Int:=if uo p s≠0 then uo p s else if r<0\/(p.a_.length:Int)<=r then 13 else 0
theorem Vl (p:ah) (s:State) (r:Int) (hp:Small p):eH p s r=some (vE p s r)/\eG p s r=some (vE p s r):=by
 unfold eH eG vE
 rw [qO p s hp,nG p s hp,bs,bs]
 by_cases h:uo p s=0
 ·rw [h,bz rfl,cE,bu,bt,ci (by simp)]
  by_cases h1:r<0
  ·rw [bz h1,cj (.inl h1)];exact⟨rfl,rfl⟩
  ·by_cases h2:(p.a_.length:Int)<=r
   ·rw [b_ h1,bz h2,cj (.inr h2)];exact⟨rfl,rfl⟩
   ·rw [b_ h1,b_ h2,ci (by omega)];exact⟨rfl,rfl⟩
 ·rw [b_ h,cj h];exact⟨rfl,rfl⟩
theorem Oi {p:ah} {s:State} {r:Int}:vE p s r=0↔VP p/\VS p s/\ ∃k:Nat,r=(k:Int)/\k<p.a_.length:=by
 unfold vE
 constructor
 ·intro h
  by_cases h0:uo p s=0
  ·rw [ci (by simpa using h0)]at h
   by_cases h1:r<0\/(p.a_.length:Int)<=r
   ·rw [cj h1]at h;cases h
   ·obtain⟨hv,hs⟩:=kK.1 h0
    exact⟨hv,hs,r.toNat,by omega,by omega⟩
  ·rw [cj h0]at h;exact absurd h h0
 ·rintro ⟨hv,hs,k,rfl,hk⟩
  rw [kK.2 ⟨hv,hs⟩,ci (by simp),ci (by omega)]
theorem Ki (p:ah) (s:State) (rk:Int) (l:List (List Part)) (r5:Int) (hp:Small p) (hbig:VP p->p.ap<=7/\p.ae.length<=12) (hn:l.length<=4) (hl: ∀x∈l,x.length<=30) (t:Nat) (ht:t<2):
  dw p s rk l p s r5 (t:Int)=some (.next ((t:Int)+1)):=by
 have hln:([rk,r5].length:Int)=2:=rfl
 unfold dw
 rw [hln,sM (by omega),bt,ai ⟨by omega,by omega⟩,bw,wr (by omega),RN l (by omega) fun x hx=>by have:=hl x hx;omega]
 generalize at' [rk,r5] t=r
 obtain⟨e1,e2⟩:=Vl p s r hp
 by_cases h0:vE p s r=0
 ·obtain⟨hv,hs,k,rfl,hk⟩:=Oi.1 h0
  obtain⟨h7,h12⟩:=hbig hv
  obtain⟨K,W,hR,hS,hW,hWl,hK,gw,gf,gl⟩:=Gf hv hs hk h12 h7
  have hwl: ∀x∈W,x.length<=10000:=fun x hx=>dT (List.Sublist.length_le (List.sublist_flatten_of_mem hx)) (by omega)
  have hck:=yg hv hs hk (W:=W) (by omega) hwl
  have hok:=JM hv hs hk (W:=W) (by omega) gw gf (by omega)
  have hck2:=CZ hv hs hk (W:=W) (by omega) hwl (by omega)
  rw [hok]at hck2
  rw [<-hck2]at hck
  have hfl:l.flatten.length<=100000:=by
   have: ∀m:List (List Part),(∀x∈m,x.length<=30)->m.flatten.length<=m.length*30:=fun m=>by
    induction m with
    |nil=>intro _;simp
    |cons x m ih=>
     intro h
     have h1:=h x cw
     have h2:=ih fun y hy=>h y (ct _ hy)
     rw [List.flatten_cons,cd,c7];omega
   have:=this l hl;omega
  have hll: ∀x∈l,x.length<=10000:=fun x hx=>by have:=hl x hx;omega
  have hc1:=CZ hv hs hk (W:=l) (by omega) hll hfl
  have hc2:=yg hv hs hk (W:=l) (by omega) hll
  have h72:(bif rQ p s k then vo p s k else []).length<=1000000:=by
   have:(vo p s k).length<=72:=dT (List.length_filter_le _ _) (Ej (s:=s) hv)
   cases rQ p s k<;>simp<;>omega
  rw [hS,bs,hR,bs,hW,bs]
  dsimp only
  rw [bz (show(0:Int)=0 from rfl),bz (show(K:Int)=(K:Int)from rfl),bz (show(W.length:Int)=(K:Int) by omega)]
  rw [show gB [(true,true),((bif (bif (bif (!true)then true else(!true))then true else(!true))then true else(!true)),false)]=true from rfl,bt,hck,bs,bz rfl]
  show Option.bind _ _=_
  rw [K5 hv hs hk,bs,FV hv hs hk,bs]
  dsimp only
  rw [bz rfl,show gB [(!true,false)]=true from rfl,bt,zx _ h72,bs]
  rw [show gB [((bif (!true)then true else(!true)),false)]=true from rfl,bt,bs,bt,hc1,bs,bt,hc2,bs,bz rfl]
  rfl
 ·have hS:jv p s r=some ([],vE p s r):=by
   unfold jv
   rw [e1,bs,b_ h0];rfl
  have hS2:dZ p s r=some (0,vE p s r):=by
   unfold dZ
   rw [hS];rfl
  have hR:iL p s r=some (0,vE p s r):=by
   unfold iL
   rw [e2,bs,b_ h0];rfl
  have hC:dJ p s r=some ([],vE p s r):=by
   unfold dJ
   rw [e1,bs,b_ h0];rfl
  have hRC:iK p s r=some ([],vE p s r):=by
   unfold iK
   rw [e2,bs,b_ h0];rfl
  have hW:eO p s r l=some (vE p s r):=by
   unfold eO
   rw [e1,bs,b_ h0];rfl
  have hRW:fJ p s r l=some (vE p s r):=by
   unfold fJ
   rw [e2,bs,b_ h0];rfl
  generalize vE p s r=e at*
  rw [hS2,bs,hR,bs,hS,bs]
  dsimp only
  rw [b_ h0,bz (show e=e from rfl),bz (show(0:Int)=0 from rfl),bz (show((([]:List (List Part)).length:Nat):Int)=0 from rfl)]
  show Option.bind _ _=_
  rw [hC,bs,hRC,bs]
  dsimp only
  rw [bz (show e=e from rfl),show gB [(!true,false)]=true from rfl,bt,zx _ (by simp),bs]
  rw [show gB [((bif (!true)then true else(!true)),false)]=true from rfl,bt,bs,bt,hW,bs,bt,hRW,bs,bz (show e=e from rfl)]
  rfl
theorem UE (x n:Int): ∃b:Int,xA x n=some b:=by
 unfold xA
 by_cases h:n<1
 ·rw [bz h];exact⟨_,rfl⟩
 ·rw [b_ h,bu,ai (by omega)]
  cases decide (Int.tmod x n<0)<;>exact⟨_,rfl⟩
theorem Om {p:ah} (hp:Small p) (h:o7 p=some false):p.aa.length<=60/\p.ae.length<=60/\p.a_.length<=60/\(VP p->p.ap<=7/\p.ae.length<=12):=by
 unfold o7 at h
 cases hB:(bif (bif (decide (60<(p.aa.length:Int)))then true else(decide (60<(p.ae.length:Int))))then true else(decide (60<(p.a_.length:Int))))with
 |true=>rw [hB]at h;cases h
 |false=>
  rw [hB,bu,rq p hp,bs]at h
  simp only [uZ,eJ,de]at hB
  refine⟨by omega,by omega,by omega,fun hv=> ?_⟩
  rw [rM.2 hv,bz rfl,bt,uZ]at h
  have h:=Option.some.inj h
  simp only [eJ,de]at h
  omega
theorem Ei (p:ah) (s:State) (rack:Int) (l:List (List Part)) (hp:Small p) (hr: ∀x∈p.ae,x.trip.length<=8796093021952) (hs:IC s) (hll:l.length<=9223372036854775807):jP p s rack l=some true:=by
 obtain⟨b,hb⟩:=V9 p hp
 unfold jP
 rw [hb,bs]
 cases hB:(bif b then true else(decide (4<(l.length:Int))))with
 |true=>rw [bt,Km];rfl
 |false=>
  rw [uZ]at hB
  simp only [eJ,de]at hB
  obtain⟨rfl,hl4⟩:=hB
  obtain⟨h1,h2,h3,hbig⟩:=Om hp hb
  have hL:ay (iF l) FUEL 0=some (match l.findIdx? (fun x=>decide (30<(x.length:Int)))with|some _=> .ret true|none=> .brk ()):=by
   refine fH l (fun x=>decide (30<(x.length:Int))) (fun _=>true) (by omega) (fun i hi=> ?_) ?_
   ·unfold iF
    rw [sM (by omega),bt,ai ⟨by omega,by omega⟩,bw,Km,wr (by omega)]
    cases decide (30<((at' l i).length:Int))<;>rfl
   ·unfold iF
    rw [ji (by omega)];rfl
  rw [bu,hL,bs]
  cases hf:l.findIdx? (fun x=>decide (30<(x.length:Int)))with
  |some q=>rfl
  |none=>
   rw [List.findIdx?_eq_none_iff]at hf
   have hl30: ∀x∈l,x.length<=30:=fun x hx=>by
    have:=hf x hx
    rw [de]at this;omega
   obtain⟨r5,hpk⟩:=UE rack (p.a_.length:Int)
   have round:=fun t ht=>Ki p s rack l r5 hp hbig (by omega) hl30 t ht
   have hrun:ay (dw p s rack l p s r5) FUEL 0=some (.brk ()):=by
    refine gY (n:=3) ?_ (by unfold FUEL;omega)
    have s0:dw p s rack l p s r5 0=_:=round 0 (by omega)
    have s1:dw p s rack l p s r5 1=_:=round 1 (by omega)
    rw [aM,s0]
    show ay _ 2 1=_
    rw [aM,s1]
    show ay _ 1 2=_
    rw [aM]
    unfold dw
    have hln:([rack,r5].length:Int)=2:=rfl
    rw [hln,ji (by omega)];rfl
   dsimp only
   rw [Gc p h1 h2 h3 hr,bs,Hl s hs,bs,hpk,bs,hrun,bs]
   dsimp only
   rw [He p h1 h2 h3 hr,bs,show gB [(true,true)]=true from rfl,bt,Fz s hs,bs,bt,show gB [(true,true)]=true from rfl,bt,Km]
   rfl
end Sg
