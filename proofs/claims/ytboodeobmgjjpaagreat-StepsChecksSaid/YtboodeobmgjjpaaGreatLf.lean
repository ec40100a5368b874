import Derived.Test.YtboodeobmgjjpaaGreatLe
import Derived.KernelRfl
set_option linter.all false
namespace Sg
open Go
abbrev PR:=Nat × List af × List State × Int × Int × Search
def WB (p:au) (o:Option (Ex (List Reached × List (List Bool × Bool) × Int) PR)):Out→Prop
 | .go ls fb=> ∃kn,Kn p ls kn∧o=some (.brk (rL ls fb,kn, -1))
 | .large=> ∃f x,o=some (.ret (3,[],[],8,f,x))
 | .found ls fb=> ∃kn,Kn p ls kn∧(o=some (.ret (2,[],[],0,(ls.length:Int) - 1,⟨rL ls fb,kn⟩))∨o=some (.brk (rL ls fb,kn,(ls.length:Int) - 1)))
section
variable {p:au} (hp:VP p) {t:Task} (ht:lS p t=true) {most:Int} (hm:1≤most∧most≤20000)
include hp ht hm
theorem Ee {now:State} (hn:VS p now) (i:Nat): ∀(n k:Nat) (ls:List State) (fb:List (Int × af)) (kn:List (List Bool × Bool)),Rc p most ls fb→i<ls.length→Kn p ls kn→k+n=t.allowed.length→
  ∃m,m≤n+2∧WB p (aC (bN (i:Int) now.closed now.locked now.badLink now.on_ now.badSource now.earthed now.badBus p t most [] [] 0) m (rL ls fb,kn, -1,(k:Int))) (LU p t most now i n k ls fb)
 |0,k,ls,fb,kn,h,hi,hk,hkn=>by
  refine⟨1,by omega,kn,hk, ?_⟩
  have:decide ((k:Int)<(t.allowed.length:Int))=false:=decide_eq_false (by omega)
  rw [aG]
  unfold bN
  simp only [this,cond_false]
 |n+1,k,ls,fb,kn,h,hi,hk,hkn=>by
  obtain⟨_,_,⟨al,ax⟩,⟨gl,gx⟩⟩:=eP ht
  have hb:bN (i:Int) now.closed now.locked now.badLink now.on_ now.badSource now.earthed now.badBus p t most [] [] 0 (rL ls fb,kn, -1,(k:Int))=
    (bif (!decide ((nextR p now t (at' t.allowed k)).2=0))then some (.next (rL ls fb,kn, -1,((k+1:Nat):Int)))else
     (dL (nextR p now t (at' t.allowed k)).1 (i:Int) (at' t.allowed k) ⟨rL ls fb,kn⟩).bind fun r_1=>
      bif (!r_1.1)then some (.next (r_1.2.l,r_1.2.known, -1,((k+1:Nat):Int)))else
      bif (decide (most<(r_1.2.l.length:Int)))then some (.done (.ret (3,([]:List af),([]:List State),8, -1,r_1.2)))else
      (lV (nextR p now t (at' t.allowed k)).1 t.goal).bind fun r_2=>
      bif r_2 then some (.next (r_1.2.l,r_1.2.known,(IntKind.wrap .i64 ((r_1.2.l.length:Int) - 1)),((k+1:Nat):Int)))else some (.next (r_1.2.l,r_1.2.known, -1,((k+1:Nat):Int)))):=by
   unfold bN
   simp only [Int.toNat_natCast]
   rw [vC (by omega),cond_true,av (by omega)]
   have h0:decide ((0:Int)≤ -1)=false:=by decide
   rw [h0,cond_false,show(⟨now.closed,now.locked,now.badLink,now.on_,now.badSource,now.earthed,now.badBus⟩:State)=now from rfl,IA hp hn ht,Option.bind_some,wr (x:=(k:Int)+1) (by omega)]
   rfl
  unfold LU
  by_cases h1:(nextR p now t (at' t.allowed k)).2=0
  ·have hv:=vT hp hn h1
   have hvs:VS p (nextR p now t (at' t.allowed k)).1:=by rw [hv.2.1];exact hv.2.2.1
   rw [if_neg (by simp [h1])]
   have hll:=h.most
   rw [h1,decide_eq_true rfl,Bool.not_true,cond_false,add_eq (x:=⟨rL ls fb,kn⟩) hk hvs (i:Int) (at' t.allowed k) (by show(rL ls fb).length≤_;rw [ol];omega),Option.bind_some]at hb
   by_cases h2:(nextR p now t (at' t.allowed k)).1∈ls
   ·rw [if_pos h2]
    rw [decide_eq_true h2]at hb
    simp only [cond_true,Bool.not_false]at hb
    obtain⟨m,hm1,hm2⟩:=Ee hn i n (k+1) ls fb kn h hi hk (by omega)
    refine⟨m+1,by omega, ?_⟩
    rw [aG,hb];exact hm2
   ·rw [if_neg h2]
    rw [decide_eq_false h2]at hb
    simp only [cond_false,Bool.not_true]at hb
    simp only [Vn h.len,ol]at hb
    by_cases h3:most<((ls++[(nextR p now t (at' t.allowed k)).1]).length:Int)
    ·rw [if_pos h3]
     rw [decide_eq_true h3,cond_true]at hb
     exact⟨1,by omega,_,_,by rw [aG,hb]⟩
    ·rw [if_neg h3]
     rw [decide_eq_false h3,cond_false,Ju hvs (by omega) gx,Option.bind_some]at hb
     have hr:=h.add hvs hi (x:=at' t.allowed k) (by omega)
     have hkn2:=hk.add hp hvs
     have hlen:((ls++[(nextR p now t (at' t.allowed k)).1]).length:Int)≤20000:=by omega
     cases h4:Br (nextR p now t (at' t.allowed k)).1 t.goal with
     |true=>
      rw [if_pos rfl]
      rw [h4,cond_true,wr (by omega)]at hb
      by_cases h5:k+1<t.allowed.length
      ·refine⟨2,by omega,_,hkn2, .inl ?_⟩
       rw [aG,hb]
       simp only
       rw [aG]
       unfold bN
       simp only [Int.toNat_natCast]
       rw [vC (by omega),cond_true,av (by omega)]
       have hps:=hr.pos
       rw [decide_eq_true (show(0:Int)≤((ls++[(nextR p now t (at' t.allowed k)).1]).length:Int) - 1 by omega)]
       rfl
      ·refine⟨2,by omega,_,hkn2, .inr ?_⟩
       rw [aG,hb]
       simp only
       rw [aG]
       unfold bN
       have:decide (((k+1:Nat):Int)<(t.allowed.length:Int))=false:=decide_eq_false (by omega)
       simp only [this,cond_false]
     |false=>
      rw [if_neg (by simp)]
      rw [h4,cond_false]at hb
      obtain⟨m,hm1,hm2⟩:=Ee hn i n (k+1) _ _ _ hr (by simp;omega) hkn2 (by omega)
      refine⟨m+1,by omega, ?_⟩
      rw [aG,hb];exact hm2
  ·rw [if_pos h1]
   rw [decide_eq_false h1,Bool.not_false,cond_true]at hb
   obtain⟨m,hm1,hm2⟩:=Ee hn i n (k+1) ls fb kn h hi hk (by omega)
   refine⟨m+1,by omega, ?_⟩
   rw [aG,hb];exact hm2
theorem EZ {now:State} (i:Int) {f:Int} (hf:0≤f) (x:Search):cZ i now.closed now.locked now.badLink now.on_ now.badSource now.earthed now.badBus p t most [] [] 0 f x=
  some (if t.allowed=[]then(0,[],[],0,f,x)else(2,[],[],0,f,x)):=by
 obtain⟨_,_,⟨al,ax⟩,_⟩:=eP ht
 unfold cZ
 have hF: ∃k,FUEL=k+1:=⟨1180591620717411303423,rfl⟩
 obtain⟨k,hk⟩:=hF
 rw [hk,aG]
 unfold bN
 by_cases h:t.allowed=[]
 ·rw [if_pos h]
  have:decide ((0:Int)<(t.allowed.length:Int))=false:=decide_eq_false (by rw [h];simp)
  simp only [this,cond_false]
  rfl
 ·rw [if_neg h]
  have hpos:=List.length_pos_iff.2 h
  simp only
  rw [vC (by omega),cond_true,av (by omega),decide_eq_true hf]
  rfl
def XI (p:au) (o:Option (Ex (List af × List State × Int × List Reached × List (List Bool × Bool) × Int) PR)):Out→Prop
 | .go ls fb=> ∃kn,o=some (.brk ([],[],0,rL ls fb,kn, -1))
 | .large=> ∃f x,o=some (.ret (3,[],[],8,f,x))
 | .found ls fb=> ∃kn,o=some (.ret (2,[],[],0,(ls.length:Int) - 1,⟨rL ls fb,kn⟩))
omit hp ht hm in
noncomputable def Pk (p:au) (t:Task) (most:Int):Nat→Nat→List State→List (Int × af)→Out
 |0,_,ls,fb=> .go ls fb
 |F+1,i,ls,fb=>if i<ls.length then(match LU p t most (at' ls i) i t.allowed.length 0 ls fb with| .go ls' fb'=>Pk p t most F (i+1) ls' fb'| .large=> .large| .found ls' fb'=> .found ls' fb')else .go ls fb
theorem OL {now:State} (i:Nat): ∀(n k:Nat) (ls:List State) (fb:List (Int × af)) (ls':List State) (fb':List (Int × af)),k+n=t.allowed.length→LU p t most now i n k ls fb= .found ls' fb'→t.allowed≠[]
 |0,_,_,_,_,_,_,h=>by unfold LU at h;cases h
 |n+1,k,ls,fb,ls',fb',hk,h=>by intro e;rw [e]at hk;simp at hk
theorem Nr: ∀(F i:Nat) (ls:List State) (fb:List (Int × af)) (kn:List (List Bool × Bool)),Rc p most ls fb→i≤ls.length→Kn p ls kn→most<(i:Int)+(F:Int)→
  ∃m,m≤F+2∧XI p (aC (aV p t most) m ([],[],0,rL ls fb,kn, -1,(i:Int))) (Pk p t most F i ls fb)
 |0,i,ls,fb,kn,h,hi,hk,hF=>by have:=h.most;omega
 |F+1,i,ls,fb,kn,h,hi,hk,hF=>by
  have hll:=h.most
  by_cases hlt:i<ls.length
  ·have hn:VS p (at' ls i):=h.vs _ (at_mem hlt)
   have hs:(at' (rL ls fb) i).s_=at' ls i:=by unfold rL;rw [gZ hlt]
   obtain⟨m0,hm0,hres⟩:=Ee hp ht hm hn i t.allowed.length 0 ls fb kn h hlt hk (by omega)
   have hal:=(eP ht).2.2.1.1
   have hY: ∀r,cZ (i:Int) (at' ls i).closed (at' ls i).locked (at' ls i).badLink (at' ls i).on_ (at' ls i).badSource (at' ls i).earthed (at' ls i).badBus p t most [] [] 0 (-1) ⟨rL ls fb,kn⟩=some r→
     aV p t most ([],[],0,rL ls fb,kn, -1,(i:Int))=(bif (Nat.beq r.1 0)then some (.next (r.2.1,r.2.2.1,r.2.2.2.1,r.2.2.2.2.2.l,r.2.2.2.2.2.known,r.2.2.2.2.1,((i+1:Nat):Int)))else some (.done (.ret (r.1,r.2.1,r.2.2.1,r.2.2.2.1,r.2.2.2.2.1,r.2.2.2.2.2)))):=by
    intro r hr
    unfold aV
    simp only [Int.toNat_natCast,hs]
    rw [vC (by rw [ol];omega),cond_true,hr,Option.bind_some,av (by rw [ol];omega),av (by rw [ol];omega),wr (by omega)]
    rfl
   have hE: ∀o,aC (bN (i:Int) (at' ls i).closed (at' ls i).locked (at' ls i).badLink (at' ls i).on_ (at' ls i).badSource (at' ls i).earthed (at' ls i).badBus p t most [] [] 0) m0 (rL ls fb,kn, -1,((0:Nat):Int))=some o→
     aC (bN (i:Int) (at' ls i).closed (at' ls i).locked (at' ls i).badLink (at' ls i).on_ (at' ls i).badSource (at' ls i).earthed (at' ls i).badBus p t most [] [] 0) FUEL (rL ls fb,kn, -1,0)=some o:=fun o ho=>dW ho (by unfold FUEL;omega)
   have hok:=CF hp ht hm hn i t.allowed.length 0 ls fb h hlt
   have hfd:=OL (now:=at' ls i) hp ht hm i t.allowed.length 0 ls fb
   unfold Pk
   rw [if_pos hlt]
   revert hres hok hfd
   cases LU p t most (at' ls i) i t.allowed.length 0 ls fb with
   |go ls' fb'=>
    rintro ⟨kn',hk',ho⟩ hok _
    have hy:=hY (0,[],[],0, -1,⟨rL ls' fb',kn'⟩) (by unfold cZ;rw [hE _ ho];rfl)
    obtain⟨m,hm1,hm2⟩:=Nr F (i+1) ls' fb' kn' hok.1 (by have:=hok.2;omega) hk' (by omega)
    refine⟨m+1,by omega, ?_⟩
    rw [aG,hy]
    exact hm2
   |large=>
    rintro ⟨f,x,ho⟩ _ _
    have hy:=hY (3,[],[],8,f,x) (by unfold cZ;rw [hE _ ho];rfl)
    exact⟨1,by omega,f,x,by rw [aG,hy];rfl⟩
   |found ls' fb'=>
    rintro ⟨kn',hk',ho⟩ hok hfd
    have hne:=hfd ls' fb' (by omega) rfl
    rcases ho with ho|ho
    ·have hy:=hY (2,[],[],0,(ls'.length:Int) - 1,⟨rL ls' fb',kn'⟩) (by unfold cZ;rw [hE _ ho];rfl)
     exact⟨1,by omega,kn',by rw [aG,hy];rfl⟩
    ·have hy:=hY (0,[],[],0,(ls'.length:Int) - 1,⟨rL ls' fb',kn'⟩) (by unfold cZ;rw [hE _ ho];rfl)
     refine⟨2,by omega,kn', ?_⟩
     have hlt2:=hok.2
     have hpos:=hok.1.pos
     rw [aG,hy]
     simp only [show Nat.beq 0 0=true from rfl,cond_true]
     rw [aG]
     have hs2:(at' (rL ls' fb') (i+1)).s_=at' ls' (i+1):=by unfold rL;rw [gZ (by omega)]
     have hm2:=hok.1.most
     unfold aV
     simp only [Int.toNat_natCast,hs2]
     rw [vC (by rw [ol];omega),cond_true,EZ (now:=at' ls' (i+1)) hp ht hm _ (by omega),if_neg hne,Option.bind_some]
     simp only [show Nat.beq 2 0=false from rfl,cond_false]
     rw [av (by rw [ol];omega)]
  ·refine⟨1,by omega, ?_⟩
   unfold Pk
   rw [if_neg hlt]
   refine⟨kn, ?_⟩
   have:decide ((i:Int)<((rL ls fb).length:Int))=false:=decide_eq_false (by rw [ol];omega)
   rw [aG]
   unfold aV
   simp only [this,cond_false]
theorem Qx: ∀(F i:Nat) (ls:List State) (fb:List (Int × af)),Rc p most ls fb→Uy p most 0 (Pk p t most F i ls fb)
 |0,_,ls,fb,h=> ⟨h,Nat.zero_le _⟩
 |F+1,i,ls,fb,h=>by
  unfold Pk
  by_cases hlt:i<ls.length
  ·rw [if_pos hlt]
   have hok:=CF hp ht hm (h.vs _ (at_mem hlt)) i t.allowed.length 0 ls fb h hlt
   revert hok
   cases LU p t most (at' ls i) i t.allowed.length 0 ls fb with
   |go ls' fb'=>exact fun hok=>Qx F (i+1) ls' fb' hok.1
   |large=>exact fun _=>trivial
   |found ls' fb'=>exact fun hok=> ⟨hok.1,by have:=hok.2;omega⟩
  ·rw [if_neg hlt];exact⟨h,Nat.zero_le _⟩
end
theorem KI {p:au} {s:State} (hs:VS p s) {most:Int} (hm:1≤most∧most≤20000) (x:af):Rc p most [s] [(-1,x)]:=
 ⟨fun u hu=>by rw [List.mem_singleton]at hu;rw [hu];exact hs,rfl,by simp,by simp;omega,fun j hj h0=>by simp at hj;omega⟩
theorem FK {p:au} {most:Int} {ls:List State} {fb:List (Int × af)} (h:Rc p most ls fb) (hm:most≤20000) {j:Nat} (hj:j<ls.length) (kn:List (List Bool × Bool)):
  bU (j:Int) ⟨rL ls fb,kn⟩=some (path fb j):=by
 have hll:=h.most;have hlen:=h.len
 have run: ∀(n j:Nat) (out:List af),j<ls.length→j<n→out.length+n≤100000→ ∃m,m≤n+1∧aC (dS ⟨rL ls fb,kn⟩) m ((j:Int),out)=some (.brk (out++(qD fb n (j:Int)).reverse)):=by
  intro n
  induction n with
  |zero=>intro j out _ h1 _;omega
  |succ n ih=>
   intro j out hj h1 ho
   by_cases c:(j:Int)≤0
   ·refine⟨1,by omega, ?_⟩
    rw [aG]
    unfold dS qD
    have:decide ((0:Int)<(j:Int))=false:=decide_eq_false (by omega)
    simp only [this,cond_false,if_pos c,List.reverse_nil,List.append_nil]
   ·have hf:=h.from_ j (by omega) (by omega)
    have hb:dS ⟨rL ls fb,kn⟩ ((j:Int),out)=some (.next ((at' fb j).1,out++[(at' fb j).2])):=by
     unfold dS
     simp only [Int.toNat_natCast]
     have e1:at' (rL ls fb) j=⟨at' ls j,(at' fb j).1,(at' fb j).2⟩:=by unfold rL;rw [gZ hj]
     rw [vC (by omega),cond_true,av ⟨by rw [ol];omega,by simp only [List.length_singleton];omega,by simp only [List.length_singleton];omega⟩,av (by rw [ol];omega),e1]
    have e:(at' fb j).1=(((at' fb j).1.toNat:Nat):Int):=by omega
    obtain⟨m,hm1,hm2⟩:=ih (at' fb j).1.toNat (out++[(at' fb j).2]) (by omega) (by omega) (by simp only [List.length_append,List.length_singleton];omega)
    refine⟨m+1,by omega, ?_⟩
    rw [aG,hb]
    simp only
    rw [e,hm2]
    conv=>rhs;rw [qD]
    rw [if_neg c,Int.toNat_natCast,List.reverse_append,←e]
    simp
 obtain⟨m,hm1,hm2⟩:=run (j+1) j [] hj (by omega) (by simp;omega)
 unfold bU
 rw [dW hm2 (by unfold FUEL;omega)]
 simp only [List.nil_append,Option.bind_some]
 have hpl:=EJ fb (j+1) (j:Int)
 rw [MS _ (by rw [List.length_reverse];omega),Option.bind_some,av (by simp),List.reverse_reverse]
 rfl
def pL (fb:List (Int × af)):List (List af):=tab fb.length (path fb)
theorem VZ {p:au} {most:Int} {ls:List State} {fb:List (Int × af)} (h:Rc p most ls fb) {i:Nat} (hi:i<fb.length) (x:af):pL fb++[path fb i++[x]]=pL (fb++[((i:Int),x)]):=by
 apply nV (by simp [pL,bC])
 intro j hj
 unfold pL at hj ⊢
 rw [List.length_append,List.length_singleton,bC]at hj
 rw [gZ (by rw [List.length_append,List.length_singleton];exact hj)]
 by_cases e:j<fb.length
 ·rw [wR (by rw [bC];exact e),gZ e,Q9 h e]
 ·have e2:j=fb.length:=by omega
  have:=zi (tab fb.length (path fb)) (path fb i++[x])
  rw [bC]at this
  rw [e2,this,JK h hi]
abbrev FR:=List af × List State × Int
def Vz (o:Option (Ex (List State × List (List af)) (bE (List State × List (List af) × Int) (Ex (List State) FR)))):Out→Prop
 | .go ls fb=>o=some (.brk (ls,pL fb))
 | .large=>o=some (.ret (.done (.ret ([],[],8))))
 | .found ls fb=>o=some (.ret (.done (.ret (path fb (ls.length - 1),[],0))))
def UB (o:Option (Ex (List State) FR)):Out→Prop
 | .go ls fb=>o=some (.brk ls)
 | .large=>o=some (.ret ([],[],8))
 | .found ls fb=>o=some (.ret (path fb (ls.length - 1),[],0))
section
variable {p:au} (hp:VP p) {t:Task} (ht:lS p t=true) (hst:jb t) {most:Int} (hm:1≤most∧most≤20000)
include hp ht hst hm
theorem IQ (i:Nat): ∀(n k:Nat) (ls:List State) (fb:List (Int × af)),Rc p most ls fb→i<ls.length→k+n=t.allowed.length→
  ∃m,m≤n+1∧Vz (aC (gu p t most (i:Int)) m (ls,pL fb,(k:Int))) (LU p t most (at' ls i) i n k ls fb)
 |0,k,ls,fb,h,hi,hkn=>by
  refine⟨1,by omega, ?_⟩
  show _=_
  have:decide ((k:Int)<(t.allowed.length:Int))=false:=decide_eq_false (by omega)
  rw [aG]
  unfold gu
  simp only [this,cond_false]
 |n+1,k,ls,fb,h,hi,hkn=>by
  obtain⟨_,_,⟨al,ax⟩,⟨gl,gx⟩⟩:=eP ht
  have hll:=h.most;have hlen:=h.len
  have hn:VS p (at' ls i):=h.vs _ (at_mem hi)
  have hroom: ∀x∈ls,Lx x:=fun x hx=>VS.room hp (h.vs x hx)
  have hpl:(path fb i).length≤20001:=by have:=EJ fb (i+1) (i:Int);unfold path;omega
  have hpi:at' (pL fb) i=path fb i:=by unfold pL;rw [gZ (by omega)]
  have hpn:(pL fb).length=fb.length:=bC _ _
  obtain⟨ri,ri1,ri2⟩:=FD (l:=ls) (by omega) hroom (nextR p (at' ls i) t (at' t.allowed k)).1
  have hb:gu p t most (i:Int) (ls,pL fb,(k:Int))=
    (if(nextR p (at' ls i) t (at' t.allowed k)).2≠0 then some (.next (ls,pL fb,((k+1:Nat):Int)))else
     if(nextR p (at' ls i) t (at' t.allowed k)).1∈ls then some (.next (ls,pL fb,((k+1:Nat):Int)))else
     if most<((ls++[(nextR p (at' ls i) t (at' t.allowed k)).1]).length:Int)then some (.done (.ret (.done (.ret ([],[],8)))))else
     if Br (nextR p (at' ls i) t (at' t.allowed k)).1 t.goal=true then some (.done (.ret (.done (.ret (path fb i++[at' t.allowed k],[],0)))))else
     some (.next (ls++[(nextR p (at' ls i) t (at' t.allowed k)).1],pL fb++[path fb i++[at' t.allowed k]],((k+1:Nat):Int)))):=by
   unfold gu
   simp only [Int.toNat_natCast]
   rw [vC (by omega),cond_true,Bh hp hn,Option.bind_some,av ⟨by omega,by omega⟩,wr (by omega)]
   by_cases h0:Ii p (at' ls i) (at' t.allowed k)=0
   ·have e:Gg p (at' ls i) (at' t.allowed k)=(oC (at' ls i) (at' t.allowed k),0):=by unfold Gg;rw [if_pos h0]
    have en:nextR p (at' ls i) t (at' t.allowed k)=(oC (at' ls i) (at' t.allowed k),AU p (oC (at' ls i) (at' t.allowed k)) t):=by unfold nextR;rw [if_pos h0]
    have ha:=VS.Y6 hp hn (y9 h0).1
    rw [en]at ri1 ri2
    rw [e,en]
    simp only at ri1 ri2 ⊢
    simp only [decide_true,Bool.not_true,gB,Bool.and_true,show(false==false)=true from rfl,cond_true,cond_false]
    rw [iO (VP.small hp) _ hst,IX hp ha ht,Option.bind_some]
    by_cases h2:AU p (oC (at' ls i) (at' t.allowed k)) t=0
    ·rw [if_neg (by simp [h2]),h2]
     simp only [decide_true,Bool.not_true,gB,Bool.and_true,show(false==false)=true from rfl,cond_true,cond_false]
     rw [ri1,Option.bind_some]
     by_cases h3:oC (at' ls i) (at' t.allowed k)∈ls
     ·rw [if_pos h3,decide_eq_true (ri2.2 h3),cond_true];rfl
     ·rw [if_neg h3,decide_eq_false (fun q=>h3 (ri2.1 q)),cond_false]
      have hcs:fA (at' (pL fb) i)=some (path fb i):=by
       rw [hpi];unfold fA;rw [av (by omega)]
      rw [av ⟨by simp only [List.length_singleton];omega,by simp only [List.length_singleton];omega⟩,hcs,Option.bind_some]
      rw [av ⟨by rw [hpn];omega,by omega,by simp only [List.length_singleton];omega,by simp only [List.length_singleton];omega⟩]
      rw [av ⟨by simp only [List.length_singleton,hpn];omega,by simp only [List.length_singleton,hpn];omega⟩]
      by_cases h4:most<((ls++[oC (at' ls i) (at' t.allowed k)]).length:Int)
      ·rw [if_pos h4,decide_eq_true h4,cond_true]
      ·rw [if_neg h4,decide_eq_false h4,cond_false,CZ ha (by omega) gx,Option.bind_some]
       cases Br (oC (at' ls i) (at' t.allowed k)) t.goal with
       |true=>rw [if_pos rfl,cond_true]
       |false=>rw [if_neg (by simp),cond_false];rfl
    ·rw [if_pos (by simpa using h2)]
     simp only [decide_eq_false h2,Bool.not_false,gB,Bool.and_true,show(true==false)=false from rfl,cond_true,cond_false,Option.bind_some]
     rfl
   ·have e:Gg p (at' ls i) (at' t.allowed k)=(fT,Ii p (at' ls i) (at' t.allowed k)):=by unfold Gg;rw [if_neg h0]
    have en:nextR p (at' ls i) t (at' t.allowed k)=(fT,Ii p (at' ls i) (at' t.allowed k)):=by unfold nextR;rw [if_neg h0]
    rw [e,en]
    simp only
    rw [if_pos (by simpa using h0)]
    simp only [decide_eq_false h0,Bool.not_false,gB,Bool.and_true,show(true==false)=false from rfl,cond_true,cond_false,Option.bind_some]
    rfl
  unfold LU
  split
  ·rename_i h1
   rw [if_pos h1]at hb
   obtain⟨m,hm1,hm2⟩:=IQ i n (k+1) ls fb h hi (by omega)
   refine⟨m+1,by omega, ?_⟩
   rw [aG,hb];exact hm2
  ·rename_i h1
   rw [if_neg h1]at hb
   have hv:=vT hp hn (Decidable.not_not.1 h1)
   have hvs:VS p (nextR p (at' ls i) t (at' t.allowed k)).1:=by rw [hv.2.1];exact hv.2.2.1
   split
   ·rename_i h2
    rw [if_pos h2]at hb
    obtain⟨m,hm1,hm2⟩:=IQ i n (k+1) ls fb h hi (by omega)
    refine⟨m+1,by omega, ?_⟩
    rw [aG,hb];exact hm2
   ·rename_i h2
    rw [if_neg h2]at hb
    split
    ·rename_i h3
     rw [if_pos h3]at hb
     exact⟨1,by omega,by show _=_;rw [aG,hb]⟩
    ·rename_i h3
     rw [if_neg h3]at hb
     have hr:=h.add hvs hi (x:=at' t.allowed k) (by omega)
     split
     ·rename_i h4
      rw [if_pos h4]at hb
      refine⟨1,by omega, ?_⟩
      show _=_
      rw [aG,hb]
      have e1:(ls++[(nextR p (at' ls i) t (at' t.allowed k)).1]).length - 1=fb.length:=by rw [List.length_append,List.length_singleton];omega
      rw [e1,JK h (by omega)]
     ·rename_i h4
      rw [if_neg h4]at hb
      have hat:at' (ls++[(nextR p (at' ls i) t (at' t.allowed k)).1]) i=at' ls i:=wR hi
      obtain⟨m,hm1,hm2⟩:=IQ i n (k+1) _ _ hr (by rw [List.length_append,List.length_singleton];omega) (by omega)
      rw [hat]at hm2
      refine⟨m+1,by omega, ?_⟩
      rw [aG,hb]
      simp only
      rw [VZ h (by omega)]
      exact hm2
theorem Qq: ∀(F i:Nat) (ls:List State) (fb:List (Int × af)),Rc p most ls fb→i≤ls.length→most<(i:Int)+(F:Int)→
  ∃m,m≤F+1∧UB (aC (fw p t most) m (ls,pL fb,(i:Int))) (Pk p t most F i ls fb)
 |0,i,ls,fb,h,hi,hF=>by have:=h.most;omega
 |F+1,i,ls,fb,h,hi,hF=>by
  have hll:=h.most
  by_cases hlt:i<ls.length
  ·obtain⟨m0,hm0,hres⟩:=IQ hp ht hst hm i t.allowed.length 0 ls fb h hlt (by omega)
   have hal:=(eP ht).2.2.1.1
   have hok:=CF hp ht hm (h.vs _ (at_mem hlt)) i t.allowed.length 0 ls fb h hlt
   have hE: ∀o,aC (gu p t most (i:Int)) m0 (ls,pL fb,((0:Nat):Int))=some o→aC (gu p t most (i:Int)) FUEL (ls,pL fb,0)=some o:=fun o ho=>dW ho (by unfold FUEL;omega)
   unfold Pk
   rw [if_pos hlt]
   revert hres hok
   cases LU p t most (at' ls i) i t.allowed.length 0 ls fb with
   |go ls' fb'=>
    intro ho hok
    obtain⟨m,hm1,hm2⟩:=Qq F (i+1) ls' fb' hok.1 (by have:=hok.2;omega) (by omega)
    refine⟨m+1,by omega, ?_⟩
    rw [aG]
    unfold fw
    simp only
    rw [vC (by omega),cond_true,hE _ ho,Option.bind_some,wr (by omega)]
    exact hm2
   |large=>
    intro ho _
    refine⟨1,by omega, ?_⟩
    show _=_
    rw [aG]
    unfold fw
    simp only
    rw [vC (by omega),cond_true,hE _ ho,Option.bind_some]
   |found ls' fb'=>
    intro ho _
    refine⟨1,by omega, ?_⟩
    show _=_
    rw [aG]
    unfold fw
    simp only
    rw [vC (by omega),cond_true,hE _ ho,Option.bind_some]
  ·refine⟨1,by omega, ?_⟩
   unfold Pk
   rw [if_neg hlt]
   show _=_
   have:decide ((i:Int)<(ls.length:Int))=false:=decide_eq_false (by omega)
   rw [aG]
   unfold fw
   simp only [this,cond_false]
end
noncomputable def Ns (p:au) (s:State) (t:Task) (most:Int):FR:=
 if qx p s t≠0 then([],[],qx p s t)else if most<1∨20000<most then([],[],1)else if Br s t.goal=true then([],[],0)else
  match Pk p t most 20002 0 [s] [(-1,⟨0,0⟩)]with
  | .go ls _=>([],ls,4)
  | .large=>([],[],8)
  | .found ls fb=>(path fb (ls.length - 1),[],0)
theorem ED {p:au} (hp:Small p) (s:State) {t:Task} (hst:jb t) (most:Int):ru p s t most=some (Ns p s t most):=by
 unfold ru Ns
 rw [iO hp s hst,Option.bind_some]
 by_cases h:qx p s t=0
 ·obtain⟨h1,h2,h3,h4⟩:=kG h
  rw [if_neg (by simp [h]),h]
  simp only [decide_true,Bool.not_true,cond_false]
  by_cases hmm:most<1∨20000<most
  ·rw [if_pos hmm,eB]
   have:(decide (most<1)||decide (20000<most))=true:=by
    rw [Bool.or_eq_true,decide_eq_true_iff,decide_eq_true_iff];exact hmm
   rw [this];rfl
  ·rw [if_neg hmm,eB]
   have:(decide (most<1)||decide (20000<most))=false:=by
    rw [Bool.or_eq_false_iff,decide_eq_false_iff_not,decide_eq_false_iff_not];exact⟨fun q=>hmm (.inl q),fun q=>hmm (.inr q)⟩
   rw [this,cond_false]
   obtain⟨_,_,_,⟨gl,gx⟩⟩:=eP h3
   rw [CZ h2 (by omega) gx,Option.bind_some]
   cases Br s t.goal with
   |true=>rw [if_pos rfl];rfl
   |false=>
    rw [if_neg (by simp),cond_false]
    have hm:1≤most∧most≤20000:=by omega
    obtain⟨m,hm1,hm2⟩:=Qq h1 h3 hst hm 20002 0 [s] [(-1,⟨0,0⟩)] (KI h2 hm _) (by simp) (by omega)
    have e:pL [((-1:Int),(⟨0,0⟩:af))]=[([]:List af)]:=by
     simp [pL,tab,path,qD]
    rw [e]at hm2
    revert hm2
    cases Pk p t most 20002 0 [s] [(-1,⟨0,0⟩)]with
    |go ls fb=>intro ho;rw [show(0:Int)=((0:Nat):Int)from rfl,dW ho (by unfold FUEL;omega)];rfl
    |large=>intro ho;rw [show aC (fw p t most) FUEL ([s],[[]],0)=_ from dW ho (by unfold FUEL;omega)];rfl
    |found ls fb=>intro ho;rw [show aC (fw p t most) FUEL ([s],[[]],0)=_ from dW ho (by unfold FUEL;omega)];rfl
 ·rw [if_pos h];simp [h]
theorem Og (ls:List State) (fb:List (Int × af)) (kn:List (List Bool × Bool)) (hl:ls.length≤100000):bV [] ⟨rL ls fb,kn⟩=some ls:=by
 have key:aC (bY ⟨rL ls fb,kn⟩) FUEL (ls.take 0,((0:Nat):Int))=some (.brk (ls.take ls.length)):=by
  refine d9 (body:=bY ⟨rL ls fb,kn⟩) (fun i=>(ls.take i,(i:Int))) ls.length _ (fuel_lt (by omega)) (fun i hi=> ?_) ?_
  ·have e1:(at' (rL ls fb) i).s_=at' ls i:=by unfold rL;rw [gZ hi]
   unfold bY o6
   simp only [Int.toNat_natCast,e1]
   rw [vC (by rw [ol];omega),cond_true,av ⟨by simp only [List.length_take,List.length_singleton];omega,by simp only [List.length_take,List.length_singleton];omega⟩,Option.bind_some,av (by rw [ol];omega),wr (by omega),oJ hi]
   rfl
  ·unfold bY
   have:decide ((ls.length:Int)<((rL ls fb).length:Int))=false:=decide_eq_false (by rw [ol];omega)
   simp only [this,cond_false]
 rw [List.take_length]at key
 unfold bV
 rw [show aC (bY ⟨rL ls fb,kn⟩) FUEL ([],0)=_ from key];rfl
theorem NJ {p:au} (hp:Small p) (s:State) {t:Task} (hst:jb t) (most:Int):fI p s t most=some (Ns p s t most):=by
 unfold fI Ns
 rw [qo hp s hst,Option.bind_some]
 by_cases h:qx p s t=0
 ·obtain⟨h1,h2,h3,h4⟩:=kG h
  rw [if_neg (by simp [h]),h]
  simp only [decide_true,Bool.not_true,cond_false]
  by_cases hmm:most<1∨20000<most
  ·rw [if_pos hmm,eB]
   have:(decide (most<1)||decide (20000<most))=true:=by
    rw [Bool.or_eq_true,decide_eq_true_iff,decide_eq_true_iff];exact hmm
   rw [this];rfl
  ·rw [if_neg hmm,eB]
   have:(decide (most<1)||decide (20000<most))=false:=by
    rw [Bool.or_eq_false_iff,decide_eq_false_iff_not,decide_eq_false_iff_not];exact⟨fun q=>hmm (.inl q),fun q=>hmm (.inr q)⟩
   rw [this,cond_false]
   obtain⟨_,_,⟨al,_⟩,⟨gl,gx⟩⟩:=eP h3
   have hm:1≤most∧most≤20000:=by omega
   have hadd:=add_eq (ls:=[]) (x:=⟨[],[]⟩) Kn.nil h2 (-1) ⟨0,0⟩ (by simp)
   rw [Iw s (VS.small h1 h2),Option.bind_some,hadd]
   simp only [List.not_mem_nil,decide_false,cond_false,Option.bind_some]
   rw [Ju h2 (by omega) gx,Option.bind_some]
   have e0:([]:List Reached)++[(⟨s, -1,⟨0,0⟩⟩:Reached)]=rL [s] [(-1,⟨0,0⟩)]:=by simp [rL,tab,at']
   have hkn:Kn p [s] (fo (rO 280) (pM s) true []):=by have:=(Kn.nil (p:=p)).add h1 h2;simpa using this
   rw [e0]
   generalize hk0:fo (rO 280) (pM s) true ([]:List (List Bool × Bool))=k0 at hkn
   have hrc:=KI h2 hm (⟨0,0⟩:af)
   cases hmet:Br s t.goal with
   |true=>
    rw [if_pos rfl]
    simp only [cond_true,cu,Option.bind_some]
    have hz:bQ p t most [] [] 0 0 ⟨rL [s] [(-1,⟨0,0⟩)],k0⟩=some (if t.allowed=[]then(0,[],[],0,0,⟨rL [s] [(-1,⟨0,0⟩)],k0⟩)else(2,[],[],0,0,⟨rL [s] [(-1,⟨0,0⟩)],k0⟩)):=by
     unfold bQ
     obtain⟨k,hk⟩: ∃k,FUEL=k+1+1:=⟨1180591620717411303422,rfl⟩
     rw [hk,aG]
     have hs0:(at' (rL [s] [(-1,⟨0,0⟩)]) 0).s_=s:=rfl
     have b0:aV p t most ([],[],0,rL [s] [(-1,⟨0,0⟩)],k0,0,0)=some (if t.allowed=[]then .next ([],[],0,rL [s] [(-1,⟨0,0⟩)],k0,0,1)else .done (.ret (2,[],[],0,0,⟨rL [s] [(-1,⟨0,0⟩)],k0⟩))):=by
      unfold aV
      simp only
      have hll:((rL [s] [((-1:Int),(⟨0,0⟩:af))]).length:Int)=1:=rfl
      rw [hll,show decide ((0:Int)<1)=true from rfl,cond_true,show((0:Int)).toNat=0 from rfl,hs0,EZ (now:=s) h1 h3 hm 0 (Int.le_refl 0)]
      by_cases ha:t.allowed=[]
      ·rw [if_pos ha,if_pos ha];rfl
      ·rw [if_neg ha,if_neg ha];rfl
     rw [b0]
     by_cases ha:t.allowed=[]
     ·rw [if_pos ha,if_pos ha]
      simp only
      rw [aG]
      rfl
     ·rw [if_neg ha,if_neg ha];rfl
    rw [hz,Option.bind_some]
    have hpr:=FK hrc hm.2 (j:=0) (by simp) k0
    have hpth:path [((-1:Int),(⟨0,0⟩:af))] 0=[]:=by simp [path,qD]
    rw [hpth]at hpr
    have hpr':bU 0 ⟨rL [s] [(-1,⟨0,0⟩)],k0⟩=some []:=hpr
    by_cases ha:t.allowed=[]
    ·rw [if_pos ha]
     simp only [show Nat.beq 0 0=true from rfl,cond_true,show decide ((0:Int)≤0)=true from rfl]
     rw [hpr'];rfl
    ·rw [if_neg ha]
     simp only [show Nat.beq 2 0=false from rfl,show Nat.beq 2 2=true from rfl,cond_true,cond_false,show decide ((0:Int)≤0)=true from rfl]
     rw [hpr'];rfl
   |false=>
    rw [if_neg (by simp)]
    simp only [cond_false,cu,Option.bind_some]
    obtain⟨m,hm1,hm2⟩:=Nr h1 h3 hm 20002 0 [s] [(-1,⟨0,0⟩)] k0 hrc (by simp) hkn (by omega)
    have hok:=Qx h1 h3 hm 20002 0 [s] [(-1,⟨0,0⟩)] hrc
    have hE: ∀o,aC (aV p t most) m ([],[],0,rL [s] [(-1,⟨0,0⟩)],k0, -1,((0:Nat):Int))=some o→aC (aV p t most) FUEL ([],[],0,rL [s] [(-1,⟨0,0⟩)],k0, -1,0)=some o:=fun o ho=>dW ho (by unfold FUEL;omega)
    revert hm2 hok
    cases Pk p t most 20002 0 [s] [(-1,⟨0,0⟩)]with
    |go ls fb=>
     rintro ⟨kn,ho⟩ hok
     have hll:=hok.1.most
     unfold bQ
     rw [hE _ ho]
     simp only [Option.bind_some,show Nat.beq 0 0=true from rfl,cond_true,show decide ((0:Int)≤ -1)=false from rfl,cond_false]
     rw [Og ls fb kn (by omega)];rfl
    |large=>
     rintro ⟨f,x,ho⟩ _
     unfold bQ
     rw [hE _ ho]
     simp only [Option.bind_some,show Nat.beq 3 0=false from rfl,show Nat.beq 3 2=false from rfl,cond_false]
     rfl
    |found ls fb=>
     rintro ⟨kn,ho⟩ hok
     have hpos:=hok.1.pos
     unfold bQ
     rw [hE _ ho]
     simp only [Option.bind_some,show Nat.beq 2 0=false from rfl,show Nat.beq 2 2=true from rfl,cond_false,cond_true]
     rw [decide_eq_true (show(0:Int)≤(ls.length:Int) - 1 by omega),cond_true]
     have hpr:=FK hok.1 hm.2 (j:=ls.length - 1) (by omega) kn
     rw [show((ls.length - 1:Nat):Int)=(ls.length:Int) - 1 by omega]at hpr
     rw [hpr];rfl
 ·rw [if_pos h];simp [h]
noncomputable def yY (p:au) (t:Task) (y:State):Bool:= !decide (qx p y t=0)||Br y t.goal
noncomputable def wU (p:au) (t:Task) (l:List State) (y:State) (x:af):Bool:=decide ((nextR p y t x).2=0) && !decide ((nextR p y t x).1∈l)
noncomputable def Ef (p:au) (s:State) (t:Task) (l:List State):Int:=
 if qx p s t≠0 then qx p s t else if 20000<l.length then 2 else bif l.any (yY p t)then 7 else bif !decide (s∈l)then 7 else bif l.any (fun y=>t.allowed.any (wU p t l y))then 7 else 0
theorem FJ {p:au} {t:Task} {y:State} (h:yY p t y=false):qx p y t=0∧Br y t.goal=false:=by
 unfold yY at h
 rw [Bool.or_eq_false_iff,Bool.not_eq_false',decide_eq_true_iff]at h
 exact h
section
variable {p:au} (hp:VP p) {t:Task} (ht:lS p t=true) (hst:jb t) {l:List State} (hl:l.length≤20000)
include hp ht hst hl
theorem Ur: ∀(n i:Nat) (x:Search),i+n=l.length→x.l.length≤i→Kn p (l.take i) x.known→
  ∃m,m≤n+1∧(((l.drop i).any (yY p t)=true∧aC (cO p t l) m (x.l,x.known,(i:Int))=some (.ret 7))∨
   ((l.drop i).any (yY p t)=false∧ ∃x':Search,Kn p l x'.known∧aC (cO p t l) m (x.l,x.known,(i:Int))=some (.brk (x'.l,x'.known))))
 |0,i,x,hi,hx,hk=>by
  refine⟨1,by omega, .inr ⟨?_,x, ?_, ?_⟩⟩
  ·rw [List.drop_eq_nil_of_le (by omega)];rfl
  ·rw [List.take_of_length_le (by omega)]at hk;exact hk
  ·have:decide ((i:Int)<(l.length:Int))=false:=decide_eq_false (by omega)
   rw [aG]
   unfold cO
   simp only [this,cond_false]
 |n+1,i,x,hi,hx,hk=>by
  have hlt:i<l.length:=by omega
  obtain⟨_,_,_,⟨gl,gx⟩⟩:=eP ht
  have hdrop:(l.drop i).any (yY p t)=(yY p t (at' l i)||(l.drop (i+1)).any (yY p t)):=by
   rw [List.drop_eq_getElem_cons hlt,List.any_cons,fE hlt]
  have htk:l.take (i+1)=l.take i++[at' l i]:=oJ hlt
  by_cases h0:qx p (at' l i) t=0
  ·obtain⟨_,hv,_,_⟩:=kG h0
   cases hm:Br (at' l i) t.goal with
   |true=>
    refine⟨1,by omega, .inl ⟨?_, ?_⟩⟩
    ·rw [hdrop];unfold yY;rw [hm];simp
    ·rw [aG]
     unfold cO
     simp only [Int.toNat_natCast]
     rw [vC (by omega),cond_true,av (by omega),qo (VP.small hp) _ hst,h0,Option.bind_some]
     simp only [decide_true,Bool.not_true,gB,Bool.and_true,show(false==false)=true from rfl,cond_true,cond_false]
     rw [Ju hv (by omega) gx,hm]
     rfl
   |false=>
    have hb:yY p t (at' l i)=false:=by unfold yY;rw [hm,h0];simp
    have hadd:=add_eq (x:=x) hk hv (-1) ⟨0,0⟩ (by omega)
    obtain⟨x2,hx2,hx2l,hk2⟩: ∃x2:Search,dL (at' l i) (-1) ⟨0,0⟩ x=some (!decide (at' l i∈l.take i),x2)∧x2.l.length≤i+1∧Kn p (l.take (i+1)) x2.known:=by
     by_cases hin:at' l i∈l.take i
     ·refine⟨x, ?_,by omega, ?_⟩
      ·rw [hadd,decide_eq_true hin];rfl
      ·intro u hu
       rw [hk u hu,htk,List.mem_append,List.mem_singleton]
       exact⟨fun q=> .inl q,fun q=>q.elim id fun e=>e ▸ hin⟩
     ·refine⟨⟨x.l++[⟨at' l i, -1,⟨0,0⟩⟩],fo (rO 280) (pM (at' l i)) true x.known⟩, ?_, ?_, ?_⟩
      ·rw [hadd,decide_eq_false hin];rfl
      ·simp;omega
      ·rw [htk];exact hk.add hp hv
    obtain⟨m,hm1,hm2⟩:=Ur n (i+1) x2 (by omega) hx2l hk2
    have hstep:cO p t l (x.l,x.known,(i:Int))=some (.next (x2.l,x2.known,((i+1:Nat):Int))):=by
     unfold cO
     simp only [Int.toNat_natCast]
     rw [vC (by omega),cond_true,av (by omega),qo (VP.small hp) _ hst,h0,Option.bind_some]
     simp only [decide_true,Bool.not_true,gB,Bool.and_true,show(false==false)=true from rfl,cond_true,cond_false]
     rw [Ju hv (by omega) gx,hm,Option.bind_some,cond_false,show(⟨x.l,x.known⟩:Search)=x from rfl,hx2,Option.bind_some,wr (by omega)]
     rfl
    refine⟨m+1,by omega, ?_⟩
    rw [aG,hstep,hdrop,hb,Bool.false_or]
    exact hm2
  ·refine⟨1,by omega, .inl ⟨?_, ?_⟩⟩
   ·rw [hdrop];unfold yY;rw [decide_eq_false h0];simp
   ·rw [aG]
    unfold cO
    simp only [Int.toNat_natCast]
    rw [vC (by omega),cond_true,av (by omega),qo (VP.small hp) _ hst,Option.bind_some]
    simp only [decide_eq_false h0,Bool.not_false,gB,Bool.and_true,show(true==false)=false from rfl,cond_true,cond_false,Option.bind_some]
theorem WM {kn:List (List Bool × Bool)} (hk:Kn p l kn) (hv: ∀y∈l,VS p y):aC (lC p t l kn) FUEL 0=some (bif l.any (fun y=>t.allowed.any (wU p t l y))then .ret 7 else .brk ()):=by
 obtain⟨_,_,⟨al,ax⟩,_⟩:=eP ht
 rw [←jG l fun y=>t.allowed.any (wU p t l y)]
 refine dw l.length (fun i=>t.allowed.any (wU p t l (at' l i))) 7 (by omega) (fun i hi=> ?_) (by unfold lC;simp)
 have hvi:=hv _ (at_mem hi)
 have e2:aC (kX p t l kn (i:Int)) FUEL 0=some (bif t.allowed.any (wU p t l (at' l i))then .ret (.done (.ret 7))else .brk ()):=by
  rw [←jG t.allowed (wU p t l (at' l i))]
  refine dw t.allowed.length (fun k=>wU p t l (at' l i) (at' t.allowed k)) (bE.done (Ex.ret (7:Int)):bE Int (Ex Unit Int)) (by omega) (fun k hk'=> ?_) (by unfold kX;simp)
  unfold kX wU
  simp only [Int.toNat_natCast]
  rw [vC (by omega),cond_true,av (by omega),IA hp hvi ht,Option.bind_some,wr (by omega)]
  by_cases h0:(nextR p (at' l i) t (at' t.allowed k)).2=0
  ·have hn:=vT hp hvi h0
   have hvn:VS p (nextR p (at' l i) t (at' t.allowed k)).1:=by rw [hn.2.1];exact hn.2.2.1
   rw [h0]
   simp only [decide_true,gB,Bool.and_true,beq_self_eq_true,cond_true,Bool.true_and]
   rw [Ej,Option.bind_some,hk.has hvn]
   exact eZ _ _ _
  ·simp only [decide_eq_false h0,gB,Bool.and_true,show(false==true)=false from rfl,cond_false,Option.bind_some,Bool.false_and]
 unfold lC
 rw [vC (by omega),cond_true,av (by omega),e2,wr (by omega)]
 cases t.allowed.any (wU p t l (at' l i))<;>rfl
theorem Vk (hv: ∀y∈l,VS p y):aC (lu p t l) FUEL 0=some (bif l.any (fun y=>t.allowed.any (wU p t l y))then .ret 7 else .brk ()):=by
 obtain⟨_,_,⟨al,ax⟩,_⟩:=eP ht
 have hroom: ∀x∈l,Lx x:=fun x hx=>VS.room hp (hv x hx)
 rw [←jG l fun y=>t.allowed.any (wU p t l y)]
 refine dw l.length (fun i=>t.allowed.any (wU p t l (at' l i))) 7 (by omega) (fun i hi=> ?_) (by unfold lu;simp)
 have hvi:=hv _ (at_mem hi)
 have e2:aC (lJ p t l (i:Int)) FUEL 0=some (bif t.allowed.any (wU p t l (at' l i))then .ret (.done (.ret 7))else .brk ()):=by
  rw [←jG t.allowed (wU p t l (at' l i))]
  refine dw t.allowed.length (fun k=>wU p t l (at' l i) (at' t.allowed k)) (bE.done (Ex.ret (7:Int)):bE Int (Ex Unit Int)) (by omega) (fun k hk'=> ?_) (by unfold lJ;simp)
  unfold lJ wU
  simp only [Int.toNat_natCast]
  rw [vC (by omega),cond_true,Bh hp hvi,Option.bind_some,av ⟨by omega,by omega⟩,wr (by omega)]
  by_cases h0:Ii p (at' l i) (at' t.allowed k)=0
  ·have e:Gg p (at' l i) (at' t.allowed k)=(oC (at' l i) (at' t.allowed k),0):=by unfold Gg;rw [if_pos h0]
   have en:nextR p (at' l i) t (at' t.allowed k)=(oC (at' l i) (at' t.allowed k),AU p (oC (at' l i) (at' t.allowed k)) t):=by unfold nextR;rw [if_pos h0]
   have ha:=VS.Y6 hp hvi (y9 h0).1
   rw [e,en]
   simp only [decide_true,gB,Bool.and_true,beq_self_eq_true,cond_true]
   rw [iO (VP.small hp) _ hst,IX hp ha ht,Option.bind_some]
   obtain⟨ri,ri1,ri2⟩:=FD (l:=l) (by omega) hroom (oC (at' l i) (at' t.allowed k))
   by_cases h2:AU p (oC (at' l i) (at' t.allowed k)) t=0
   ·simp only [h2,decide_true,cond_true,beq_self_eq_true,Bool.true_and]
    rw [ri1,Option.bind_some]
    have:decide (ri<0)= !decide (oC (at' l i) (at' t.allowed k)∈l):=by
     rw [Bool.eq_iff_iff,decide_eq_true_iff,Bool.not_eq_true',decide_eq_false_iff_not,←ri2];omega
    rw [this]
    exact eZ _ _ _
   ·simp only [decide_eq_false h2,cond_false,show(false==true)=false from rfl,Option.bind_some,Bool.false_and]
  ·have e:Gg p (at' l i) (at' t.allowed k)=(fT,Ii p (at' l i) (at' t.allowed k)):=by unfold Gg;rw [if_neg h0]
   have en:nextR p (at' l i) t (at' t.allowed k)=(fT,Ii p (at' l i) (at' t.allowed k)):=by unfold nextR;rw [if_neg h0]
   rw [e,en]
   simp only [decide_eq_false h0,gB,Bool.and_true,show(false==true)=false from rfl,cond_false,Option.bind_some,Bool.false_and]
 unfold lu
 rw [vC (by omega),cond_true,e2,wr (by omega)]
 cases t.allowed.any (wU p t l (at' l i))<;>rfl
theorem Vg:aC (lK p t l) FUEL 0=some (bif l.any (yY p t)then .ret 7 else .brk ()):=by
 obtain⟨_,_,_,⟨gl,gx⟩⟩:=eP ht
 rw [←jG l (yY p t)]
 refine dw l.length (fun i=>yY p t (at' l i)) 7 (by omega) (fun i hi=> ?_) (by unfold lK;simp)
 unfold lK
 simp only [Int.toNat_natCast]
 rw [vC (by omega),cond_true,iO (VP.small hp) _ hst,Option.bind_some,wr (by omega)]
 unfold yY
 by_cases h0:qx p (at' l i) t=0
 ·obtain⟨_,hv,_,_⟩:=kG h0
  simp only [h0,decide_true,Bool.not_true,gB,Bool.and_true,show(false==false)=true from rfl,cond_true,cond_false,Bool.false_or]
  rw [CZ hv (by omega) gx,Option.bind_some,av ⟨by omega,fun _=>by omega⟩]
  exact eZ _ _ _
 ·simp only [decide_eq_false h0,Bool.not_false,gB,Bool.and_true,show(true==false)=false from rfl,cond_false,cond_true,Option.bind_some,Bool.true_or]
  rw [av ⟨by omega,fun _=>by omega⟩]
end
theorem OC {p:au} (hp:Small p) (s:State) {t:Task} (hst:jb t) (l:List State):jC p s t l=some (Ef p s t l):=by
 unfold jC Ef
 rw [qo hp s hst,Option.bind_some]
 by_cases h:qx p s t=0
 ·obtain⟨h1,h2,h3,h4⟩:=kG h
  rw [if_neg (by simp [h]),h]
  simp only [decide_true,Bool.not_true,cond_false]
  by_cases hl:20000<l.length
  ·rw [if_pos hl,decide_eq_true (show(20000:Int)<(l.length:Int) by omega),cond_true]
  ·rw [if_neg hl,decide_eq_false (show ¬ (20000:Int)<(l.length:Int) by omega),cond_false]
   obtain⟨m,hm1,hm2⟩:=Ur h1 h3 hst (l:=l) (by omega) l.length 0 ⟨[],[]⟩ (by omega) (by simp) (by rw [List.take_zero];exact Kn.nil)
   rw [List.drop_zero]at hm2
   rcases hm2 with⟨ha,hr⟩|⟨ha,x',hk,hr⟩
   ·rw [ha,show aC (cO p t l) FUEL ([],[],0)=_ from dW hr (by unfold FUEL;omega)];rfl
   ·rw [ha,show aC (cO p t l) FUEL ([],[],0)=_ from dW hr (by unfold FUEL;omega)]
    simp only [Option.bind_some,cond_false]
    rw [List.any_eq_false]at ha
    have hv: ∀y∈l,VS p y:=fun y hy=>(kG (FJ (by simpa using ha y hy)).1).2.1
    rw [Ej,Option.bind_some,hk.has h2]
    cases decide (s∈l)with
    |false=>rfl
    |true=>
     simp only [Bool.not_true,cond_false]
     rw [WM h1 h3 hst (by omega) hk hv]
     cases l.any (fun y=>t.allowed.any (wU p t l y))<;>rfl
 ·rw [if_pos h];simp [h]
theorem Js {p:au} (hp:Small p) (s:State) {t:Task} (hst:jb t) (l:List State):tC p s t l=some (Ef p s t l):=by
 unfold tC Ef
 rw [iO hp s hst,Option.bind_some]
 by_cases h:qx p s t=0
 ·obtain⟨h1,h2,h3,h4⟩:=kG h
  rw [if_neg (by simp [h]),h]
  simp only [decide_true,Bool.not_true,cond_false]
  by_cases hl:20000<l.length
  ·rw [if_pos hl,decide_eq_true (show(20000:Int)<(l.length:Int) by omega),cond_true]
  ·rw [if_neg hl,decide_eq_false (show ¬ (20000:Int)<(l.length:Int) by omega),cond_false,Vg h1 h3 hst (by omega)]
   cases ha:l.any (yY p t)with
   |true=>rfl
   |false=>
    simp only [Option.bind_some,cond_false]
    rw [List.any_eq_false]at ha
    have hv: ∀y∈l,VS p y:=fun y hy=>(kG (FJ (by simpa using ha y hy)).1).2.1
    obtain⟨ri,ri1,ri2⟩:=FD (l:=l) (by omega) (fun x hx=>VS.room h1 (hv x hx)) s
    rw [ri1,Option.bind_some]
    have:decide (ri<0)= !decide (s∈l):=by
     rw [Bool.eq_iff_iff,decide_eq_true_iff,Bool.not_eq_true',decide_eq_false_iff_not,←ri2];omega
    rw [this]
    cases decide (s∈l)with
    |false=>rfl
    |true=>
     simp only [Bool.not_true,cond_false]
     rw [Vk h1 h3 hst (by omega) hv]
     cases l.any (fun y=>t.allowed.any (wU p t l y))<;>rfl
 ·rw [if_pos h];simp [h]
def DX:au:=⟨3,[⟨0,1,500,0,20⟩],[⟨0,1,3,400,10,[]⟩,⟨1,2,2,400,10,[]⟩],[⟨⟨2, -1⟩,100,1⟩]⟩
def AV:State:=⟨[true,true],List.replicate 2 false,List.replicate 2 false,[true],List.replicate 1 false,List.replicate 3 false,List.replicate 3 false⟩
def Zo:Task:=⟨[],[],[⟨1,0⟩,⟨2,0⟩,⟨1,1⟩,⟨2,1⟩],[⟨1,1⟩]⟩
def exU:Task:=⟨[0],[],[⟨1,0⟩,⟨2,0⟩,⟨1,1⟩,⟨2,1⟩],[⟨1,1⟩]⟩
theorem fe:Small DX:=⟨by decide,by decide,by decide,fun x hx=>by
 simp only [DX,List.mem_cons,List.not_mem_nil,or_false]at hx
 rcases hx with rfl|rfl<;>decide⟩
theorem GU:jb Zo:=⟨by decide,by decide,by decide,by decide⟩
theorem zk:jb exU:=⟨by decide,by decide,by decide,by decide⟩
theorem Xj:qR=some (DX,AV):=by kernel_rfl
theorem ex1:ru DX AV Zo 100=some ([⟨1,0⟩,⟨1,1⟩],[],0):=by kernel_rfl
theorem ex2:ru DX AV exU 100=some ([],[AV],4):=by kernel_rfl
theorem ex3:tC DX AV exU [AV]=some 0:=by kernel_rfl
theorem Z5:fI DX AV Zo 100=some ([⟨1,0⟩,⟨1,1⟩],[],0):=(NJ fe AV GU 100).trans ((ED fe AV GU 100).symm.trans ex1)
theorem ZL:fI DX AV exU 100=some ([],[AV],4):=(NJ fe AV zk 100).trans ((ED fe AV zk 100).symm.trans ex2)
theorem ZY:jC DX AV exU [AV]=some 0:=(OC fe AV zk [AV]).trans ((Js fe AV zk [AV]).symm.trans ex3)
theorem ex4:j3 DX AV ⟨1,1⟩=some (fT,44):=by kernel_rfl
def exR:State:=⟨[false,false],List.replicate 2 false,List.replicate 2 false,[true],List.replicate 1 false,List.replicate 3 false,List.replicate 3 false⟩
def M7:State:=⟨[false,false],[false,true],List.replicate 2 false,[true],List.replicate 1 false,[false,false,true],List.replicate 3 false⟩
theorem ex5:oK DX AV ⟨[],[],[],[]⟩ [⟨1,0⟩,⟨1,1⟩]=some (2,exR,0):=by kernel_rfl
theorem ex6:j3 DX M7 ⟨2,1⟩=some (fT,43):=by kernel_rfl
theorem ex7:oK DX M7 ⟨[],[2],[],[]⟩ [⟨6,1⟩]=some (0,fT,45):=by kernel_rfl
theorem ex8:bX DX M7 ⟨[],[2],[],[]⟩=some 0:=by kernel_rfl
theorem ex9:gy [⟨1,0⟩,⟨1,1⟩] [⟨1,0⟩,⟨1,1⟩]=some true:=by kernel_rfl
theorem aaF:bS exR.closed [false,false]=some true:=by kernel_rfl
theorem Ov {α:Type} {c:Bool} {a b:α} (h:c=false):(bif c then a else b)=b:=by rw [h];rfl
theorem Zr {α:Type} {c:Bool} {a b:α} (h:c=true):(bif c then a else b)=a:=by rw [h];rfl
theorem JU:jb ⟨[],[],[],[]⟩:=⟨by decide,by decide,by decide,by decide⟩
theorem Bc:jb ⟨[],[2],[],[]⟩:=⟨by decide,by decide,by decide,by decide⟩
theorem aaQ:jT DX AV ⟨1,1⟩=some (fT,44):=(Ul fe AV _).trans ((Ki fe AV _).symm.trans ex4)
theorem aaM:fU DX AV ⟨[],[],[],[]⟩ [⟨1,0⟩,⟨1,1⟩]=some (2,exR,0):=(He fe AV JU _).trans ((BH fe AV JU _).symm.trans ex5)
theorem aaB:jT DX M7 ⟨2,1⟩=some (fT,43):=(Ul fe M7 _).trans ((Ki fe M7 _).symm.trans ex6)
theorem ZC:fU DX M7 ⟨[],[2],[],[]⟩ [⟨6,1⟩]=some (0,fT,45):=(He fe M7 Bc _).trans ((BH fe M7 Bc _).symm.trans ex7)
theorem Zp:eD DX M7 ⟨[],[2],[],[]⟩=some 0:=(qo fe M7 Bc).trans ((iO fe M7 Bc).symm.trans ex8)
theorem ES:nH=some true:=by
 unfold nH
 rw [Xj,Option.bind_some]
 dsimp only
 rw [show fI DX AV (⟨([]:List Int),([]:List Int),[(⟨1,0⟩:af),(⟨2,0⟩:af),(⟨1,1⟩:af),(⟨2,1⟩:af)],[(⟨1,1⟩:af)]⟩:Task) 100=_ from Z5,Option.bind_some,aaQ,Option.bind_some,Ov (by rfl),ex9,Option.bind_some,Ov (by rfl),aaM,Option.bind_some,Ov (by rfl),aaF,Option.bind_some,Ov (by rfl),
  show fI DX AV (⟨[0],([]:List Int),[(⟨1,0⟩:af),(⟨2,0⟩:af),(⟨1,1⟩:af),(⟨2,1⟩:af)],[(⟨1,1⟩:af)]⟩:Task) 100=_ from ZL,Option.bind_some,Ov (by rfl),
  show jC DX AV (⟨[0],([]:List Int),[(⟨1,0⟩:af),(⟨2,0⟩:af),(⟨1,1⟩:af),(⟨2,1⟩:af)],[(⟨1,1⟩:af)]⟩:Task) [AV]=_ from ZY,Option.bind_some,Ov (by rfl),av (by decide)]
 change Option.bind (jT DX M7 ⟨2,1⟩) _=_
 rw [aaB,Option.bind_some]
 change Option.bind (fU DX M7 ⟨[],[2],[],[]⟩ [⟨6,1⟩]) _=_
 rw [ZC,Option.bind_some,Zr (by rfl)]
 change Option.bind (eD DX M7 ⟨[],[2],[],[]⟩) _=_
 rw [Zp,Option.bind_some]
 rfl
theorem Ae (l:List Int) (h:l.length≤9223372036854775807):l7 l l=some true:=by
 unfold l7
 rw [decide_eq_true rfl]
 simp only [Bool.not_true,cond_false]
 have key:aC (lm l l) FUEL 0=some (.brk ()):= ?_
 ·rw [key];rfl
 refine KN l h (fun i hi=> ?_) (by unfold lm;simp)
 unfold lm
 simp only [Int.toNat_natCast]
 rw [vC (by omega),cond_true,av (by omega),wr (by omega)]
 simp
theorem yL (l:List af) (h:l.length≤9223372036854775807):gy l l=some true:=by
 unfold gy
 rw [decide_eq_true rfl]
 simp only [Bool.not_true,cond_false]
 have key:aC (jZ l l) FUEL 0=some (.brk ()):= ?_
 ·rw [key];rfl
 refine KN l h (fun i hi=> ?_) (by unfold jZ;simp)
 unfold jZ
 simp only [Int.toNat_natCast]
 rw [vC (by omega),cond_true,av (by omega),wr (by omega)]
 simp
def RB (p:au) (t:Task):Bool:=(bif (bif (bif (bif (bif (bif (decide (60<(p.sources.length:Int)))then true else(decide (60<(p.links.length:Int))))then true else(decide (60<(p.racks.length:Int))))then true else(decide (60<(t.fed.length:Int))))then true else(decide (60<(t.crew.length:Int))))then true else(decide (60<(t.allowed.length:Int))))then true else(decide (60<(t.goal.length:Int))))
theorem Vp (p:au) (t:Task):yR p t=some (RB p t):=rfl
structure Ep (t:Task):Prop where
 f:t.fed.length≤60
 c:t.crew.length≤60
 a:t.allowed.length≤60
 g:t.goal.length≤60
structure VJ (p:au):Prop where
 s:p.sources.length≤60
 l:p.links.length≤60
 r:p.racks.length≤60
theorem MZ {p:au} {t:Task} (h:RB p t=false):VJ p∧Ep t:=by
 unfold RB at h
 simp only [eB,Bool.or_eq_false_iff,decide_eq_false_iff_not]at h
 obtain⟨⟨⟨⟨⟨⟨h1,h2⟩,h3⟩,h4⟩,h5⟩,h6⟩,h7⟩:=h
 exact⟨⟨by omega,by omega,by omega⟩,⟨by omega,by omega,by omega,by omega⟩⟩
theorem Ep.small {t:Task} (h:Ep t):jb t:=by
 obtain⟨h1,h2,h3,h4⟩:=h
 exact⟨by omega,by omega,by omega,by omega⟩
theorem Dy (l:List Int) (h:l.length≤60):lY l=some l:=by
 unfold lY;rw [av (by omega)]
theorem BB (l:List af) (h:l.length≤1000):fA l=some l:=by
 unfold fA;rw [av (by omega)]
theorem U0 {t:Task} (h:Ep t):uI t=some t:=by
 obtain⟨h1,h2,h3,h4⟩:=h
 unfold uI
 rw [Dy _ h1,Dy _ h2,BB _ (by omega),BB _ (by omega)]
 rfl
theorem Gy {t:Task} (h:Ep t):mJ t t=some true:=by
 obtain⟨h1,h2,h3,h4⟩:=h
 unfold mJ
 rw [Ae _ (by omega),Ae _ (by omega),yL _ (by omega),yL _ (by omega)]
 rfl
theorem DC (x:af): ∃y,iI x=some y:=by
 unfold iI
 by_cases h:x.deed<1∨8<x.deed
 ·refine⟨x, ?_⟩
  rw [eB]
  have:(decide (x.deed<1)||decide (8<x.deed))=true:=by rw [Bool.or_eq_true,decide_eq_true_iff,decide_eq_true_iff];exact h
  rw [this];rfl
 ·rw [eB]
  have:(decide (x.deed<1)||decide (8<x.deed))=false:=by
   rw [Bool.or_eq_false_iff,decide_eq_false_iff_not,decide_eq_false_iff_not];exact⟨fun q=>h (.inl q),fun q=>h (.inr q)⟩
  rw [this,cond_false,av ⟨by omega,by show x.deed<((9:Nat):Int);omega⟩]
  exact⟨_,rfl⟩
theorem CR {p:au} (s:State) (t:Task) (x:af) (hp:Small p):jy p s t x=some true:=by
 unfold jy
 rw [Vp,Option.bind_some]
 cases hb:RB p t with
 |true=>rw [cond_true,ES];rfl
 |false=>
  obtain⟨h6,h7⟩:=MZ hb
  have hst:=h7.small
  rw [cond_false,U0 h7,Option.bind_some,Qw hp,Option.bind_some,Jl hp,Option.bind_some]
  obtain⟨y,hy⟩:=DC x
  rw [Ja p hp t hst,DR p hp t hst,qo hp s hst,iO hp s hst,MQ,hy,Gy h7,ES]
  simp [gB]
end Sg
