import Derived.Test.YtboodeobmgjjpaaGreatPrLe
import Derived.KernelRfl
import Derived.Test.YtboodeobmgjjpaaGreatPrLc
import Derived.SizedLaws
set_option linter.all false
namespace Sg
open Go
abbrev PR:=Nat × List af × List State × Int × Int × Search
def WX (p:au) (o:Option (Ex (List Reached × List (List Bool × Bool) × Int) PR)):Out→Prop
 | .go ls fb=> ∃kn,Kn p ls kn∧o=some (.brk (rL ls fb,kn, -1))
 | .large=> ∃f x,o=some (.ret (3,[],[],8,f,x))
 | .found ls fb=> ∃kn,Kn p ls kn∧(o=some (.ret (2,[],[],0,(ls.length:Int) - 1,⟨rL ls fb,kn⟩))∨o=some (.brk (rL ls fb,kn,(ls.length:Int) - 1)))
section
variable {p:au} (hp:VP p) {t:Task} (ht:ol p t=true) {most:Int} (hm:1≤most∧most≤20000)
include hp ht hm
theorem Ei {now:State} (hn:VS p now) (i:Nat): ∀(n k:Nat) (ls:List State) (fb:List (Int × af)) (kn:List (List Bool × Bool)),Rc p most ls fb→i<ls.length→Kn p ls kn→k+n=t.allowed.length→
  ∃m,m≤n+2∧WX p (aC (bP (i:Int) now.closed now.locked now.badLink now.on_ now.badSource now.earthed now.badBus p t most [] [] 0) m (rL ls fb,kn, -1,(k:Int))) (Mc p t most now i n k ls fb)
 |0,k,ls,fb,kn,h,hi,hk,hkn=>by
  refine⟨1,by omega,kn,hk, ?_⟩
  have:decide ((k:Int)<(t.allowed.length:Int))=false:=decide_eq_false (by omega)
  rw [aG]
  unfold bP
  simp only [this,cond_false]
 |n+1,k,ls,fb,kn,h,hi,hk,hkn=>by
  obtain⟨_,_,⟨al,ax⟩,⟨gl,gx⟩⟩:=eU ht
  have hb:bP (i:Int) now.closed now.locked now.badLink now.on_ now.badSource now.earthed now.badBus p t most [] [] 0 (rL ls fb,kn, -1,(k:Int))=
    (bif (!decide ((nextR p now t (at' t.allowed k)).2=0))then some (.next (rL ls fb,kn, -1,((k+1:Nat):Int)))else
     (dR (nextR p now t (at' t.allowed k)).1 (i:Int) (at' t.allowed k) ⟨rL ls fb,kn⟩).bind fun r_1=>
      bif (!r_1.1)then some (.next (r_1.2.l,r_1.2.known, -1,((k+1:Nat):Int)))else
      bif (decide (most<(r_1.2.l.length:Int)))then some (.done (.ret (3,([]:List af),([]:List State),8, -1,r_1.2)))else
      (lQ (nextR p now t (at' t.allowed k)).1 t.goal).bind fun r_2=>
      bif r_2 then some (.next (r_1.2.l,r_1.2.known,(IntKind.wrap .i64 ((r_1.2.l.length:Int) - 1)),((k+1:Nat):Int)))else some (.next (r_1.2.l,r_1.2.known, -1,((k+1:Nat):Int)))):=by
   unfold bP
   simp only [Int.toNat_natCast]
   rw [vE (by omega),cond_true,av (by omega)]
   have h0:decide ((0:Int)≤ -1)=false:=by decide
   rw [h0,cond_false,show(⟨now.closed,now.locked,now.badLink,now.on_,now.badSource,now.earthed,now.badBus⟩:State)=now from rfl,JG hp hn ht,Option.bind_some,wr (x:=(k:Int)+1) (by omega)]
   rfl
  unfold Mc
  by_cases h1:(nextR p now t (at' t.allowed k)).2=0
  ·have hv:=wE hp hn h1
   have hvs:VS p (nextR p now t (at' t.allowed k)).1:=by rw [hv.2.1];exact hv.2.2.1
   rw [if_neg (by simp [h1])]
   have hll:=h.most
   rw [h1,decide_eq_true rfl,Bool.not_true,cond_false,add_eq (x:=⟨rL ls fb,kn⟩) hk hvs (i:Int) (at' t.allowed k) (by show(rL ls fb).length≤_;rw [nV];omega),Option.bind_some]at hb
   by_cases h2:(nextR p now t (at' t.allowed k)).1∈ls
   ·rw [if_pos h2]
    rw [decide_eq_true h2]at hb
    simp only [cond_true,Bool.not_false]at hb
    obtain⟨m,hm1,hm2⟩:=Ei hn i n (k+1) ls fb kn h hi hk (by omega)
    refine⟨m+1,by omega, ?_⟩
    rw [aG,hb];exact hm2
   ·rw [if_neg h2]
    rw [decide_eq_false h2]at hb
    simp only [cond_false,Bool.not_true]at hb
    simp only [VZ h.len,nV]at hb
    by_cases h3:most<((ls++[(nextR p now t (at' t.allowed k)).1]).length:Int)
    ·rw [if_pos h3]
     rw [decide_eq_true h3,cond_true]at hb
     exact⟨1,by omega,_,_,by rw [aG,hb]⟩
    ·rw [if_neg h3]
     rw [decide_eq_false h3,cond_false,Js hvs (by omega) gx,Option.bind_some]at hb
     have hr:=h.add hvs hi (x:=at' t.allowed k) (by omega)
     have hkn2:=hk.add hp hvs
     have hlen:((ls++[(nextR p now t (at' t.allowed k)).1]).length:Int)≤20000:=by omega
     cases h4:BN (nextR p now t (at' t.allowed k)).1 t.goal with
     |true=>
      rw [if_pos rfl]
      rw [h4,cond_true,wr (by omega)]at hb
      by_cases h5:k+1<t.allowed.length
      ·refine⟨2,by omega,_,hkn2, .inl ?_⟩
       rw [aG,hb]
       simp only
       rw [aG]
       unfold bP
       simp only [Int.toNat_natCast]
       rw [vE (by omega),cond_true,av (by omega)]
       have hps:=hr.pos
       rw [decide_eq_true (show(0:Int)≤((ls++[(nextR p now t (at' t.allowed k)).1]).length:Int) - 1 by omega)]
       rfl
      ·refine⟨2,by omega,_,hkn2, .inr ?_⟩
       rw [aG,hb]
       simp only
       rw [aG]
       unfold bP
       have:decide (((k+1:Nat):Int)<(t.allowed.length:Int))=false:=decide_eq_false (by omega)
       simp only [this,cond_false]
     |false=>
      rw [if_neg (by simp)]
      rw [h4,cond_false]at hb
      obtain⟨m,hm1,hm2⟩:=Ei hn i n (k+1) _ _ _ hr (by simp;omega) hkn2 (by omega)
      refine⟨m+1,by omega, ?_⟩
      rw [aG,hb];exact hm2
  ·rw [if_pos h1]
   rw [decide_eq_false h1,Bool.not_false,cond_true]at hb
   obtain⟨m,hm1,hm2⟩:=Ei hn i n (k+1) ls fb kn h hi hk (by omega)
   refine⟨m+1,by omega, ?_⟩
   rw [aG,hb];exact hm2
theorem EU {now:State} (i:Int) {f:Int} (hf:0≤f) (x:Search):dh i now.closed now.locked now.badLink now.on_ now.badSource now.earthed now.badBus p t most [] [] 0 f x=
  some (if t.allowed=[]then(0,[],[],0,f,x)else(2,[],[],0,f,x)):=by
 obtain⟨_,_,⟨al,ax⟩,_⟩:=eU ht
 unfold dh
 have hF: ∃k,FUEL=k+1:=⟨1180591620717411303423,rfl⟩
 obtain⟨k,hk⟩:=hF
 rw [hk,aG]
 unfold bP
 by_cases h:t.allowed=[]
 ·rw [if_pos h]
  have:decide ((0:Int)<(t.allowed.length:Int))=false:=decide_eq_false (by rw [h];simp)
  simp only [this,cond_false]
  rfl
 ·rw [if_neg h]
  have hpos:=List.length_pos_iff.2 h
  simp only
  rw [vE (by omega),cond_true,av (by omega),decide_eq_true hf]
  rfl
def Zh (p:au) (o:Option (Ex (List af × List State × Int × List Reached × List (List Bool × Bool) × Int) PR)):Out→Prop
 | .go ls fb=> ∃kn,o=some (.brk ([],[],0,rL ls fb,kn, -1))
 | .large=> ∃f x,o=some (.ret (3,[],[],8,f,x))
 | .found ls fb=> ∃kn,o=some (.ret (2,[],[],0,(ls.length:Int) - 1,⟨rL ls fb,kn⟩))
omit hp ht hm in
noncomputable def Py (p:au) (t:Task) (most:Int):Nat→Nat→List State→List (Int × af)→Out
 |0,_,ls,fb=> .go ls fb
 |F+1,i,ls,fb=>if i<ls.length then(match Mc p t most (at' ls i) i t.allowed.length 0 ls fb with| .go ls' fb'=>Py p t most F (i+1) ls' fb'| .large=> .large| .found ls' fb'=> .found ls' fb')else .go ls fb
theorem Om {now:State} (i:Nat): ∀(n k:Nat) (ls:List State) (fb:List (Int × af)) (ls':List State) (fb':List (Int × af)),k+n=t.allowed.length→Mc p t most now i n k ls fb= .found ls' fb'→t.allowed≠[]
 |0,_,_,_,_,_,_,h=>by unfold Mc at h;cases h
 |n+1,k,ls,fb,ls',fb',hk,h=>by intro e;rw [e]at hk;simp at hk
theorem NA: ∀(F i:Nat) (ls:List State) (fb:List (Int × af)) (kn:List (List Bool × Bool)),Rc p most ls fb→i≤ls.length→Kn p ls kn→most<(i:Int)+(F:Int)→
  ∃m,m≤F+2∧Zh p (aC (aX p t most) m ([],[],0,rL ls fb,kn, -1,(i:Int))) (Py p t most F i ls fb)
 |0,i,ls,fb,kn,h,hi,hk,hF=>by have:=h.most;omega
 |F+1,i,ls,fb,kn,h,hi,hk,hF=>by
  have hll:=h.most
  by_cases hlt:i<ls.length
  ·have hn:VS p (at' ls i):=h.vs _ (at_mem hlt)
   have hs:(at' (rL ls fb) i).s_=at' ls i:=by unfold rL;rw [iy hlt]
   obtain⟨m0,hm0,hres⟩:=Ei hp ht hm hn i t.allowed.length 0 ls fb kn h hlt hk (by omega)
   have hal:=(eU ht).2.2.1.1
   have hY: ∀r,dh (i:Int) (at' ls i).closed (at' ls i).locked (at' ls i).badLink (at' ls i).on_ (at' ls i).badSource (at' ls i).earthed (at' ls i).badBus p t most [] [] 0 (-1) ⟨rL ls fb,kn⟩=some r→
     aX p t most ([],[],0,rL ls fb,kn, -1,(i:Int))=(bif (Nat.beq r.1 0)then some (.next (r.2.1,r.2.2.1,r.2.2.2.1,r.2.2.2.2.2.l,r.2.2.2.2.2.known,r.2.2.2.2.1,((i+1:Nat):Int)))else some (.done (.ret (r.1,r.2.1,r.2.2.1,r.2.2.2.1,r.2.2.2.2.1,r.2.2.2.2.2)))):=by
    intro r hr
    unfold aX
    simp only [Int.toNat_natCast,hs]
    rw [vE (by rw [nV];omega),cond_true,hr,Option.bind_some,av (by rw [nV];omega),av (by rw [nV];omega),wr (by omega)]
    rfl
   have hE: ∀o,aC (bP (i:Int) (at' ls i).closed (at' ls i).locked (at' ls i).badLink (at' ls i).on_ (at' ls i).badSource (at' ls i).earthed (at' ls i).badBus p t most [] [] 0) m0 (rL ls fb,kn, -1,((0:Nat):Int))=some o→
     aC (bP (i:Int) (at' ls i).closed (at' ls i).locked (at' ls i).badLink (at' ls i).on_ (at' ls i).badSource (at' ls i).earthed (at' ls i).badBus p t most [] [] 0) FUEL (rL ls fb,kn, -1,0)=some o:=fun o ho=>dX ho (by unfold FUEL;omega)
   have hok:=CX hp ht hm hn i t.allowed.length 0 ls fb h hlt
   have hfd:=Om (now:=at' ls i) hp ht hm i t.allowed.length 0 ls fb
   unfold Py
   rw [if_pos hlt]
   revert hres hok hfd
   cases Mc p t most (at' ls i) i t.allowed.length 0 ls fb with
   |go ls' fb'=>
    rintro ⟨kn',hk',ho⟩ hok _
    have hy:=hY (0,[],[],0, -1,⟨rL ls' fb',kn'⟩) (by unfold dh;rw [hE _ ho];rfl)
    obtain⟨m,hm1,hm2⟩:=NA F (i+1) ls' fb' kn' hok.1 (by have:=hok.2;omega) hk' (by omega)
    refine⟨m+1,by omega, ?_⟩
    rw [aG,hy]
    exact hm2
   |large=>
    rintro ⟨f,x,ho⟩ _ _
    have hy:=hY (3,[],[],8,f,x) (by unfold dh;rw [hE _ ho];rfl)
    exact⟨1,by omega,f,x,by rw [aG,hy];rfl⟩
   |found ls' fb'=>
    rintro ⟨kn',hk',ho⟩ hok hfd
    have hne:=hfd ls' fb' (by omega) rfl
    rcases ho with ho|ho
    ·have hy:=hY (2,[],[],0,(ls'.length:Int) - 1,⟨rL ls' fb',kn'⟩) (by unfold dh;rw [hE _ ho];rfl)
     exact⟨1,by omega,kn',by rw [aG,hy];rfl⟩
    ·have hy:=hY (0,[],[],0,(ls'.length:Int) - 1,⟨rL ls' fb',kn'⟩) (by unfold dh;rw [hE _ ho];rfl)
     refine⟨2,by omega,kn', ?_⟩
     have hlt2:=hok.2
     have hpos:=hok.1.pos
     rw [aG,hy]
     simp only [show Nat.beq 0 0=true from rfl,cond_true]
     rw [aG]
     have hs2:(at' (rL ls' fb') (i+1)).s_=at' ls' (i+1):=by unfold rL;rw [iy (by omega)]
     have hm2:=hok.1.most
     unfold aX
     simp only [Int.toNat_natCast,hs2]
     rw [vE (by rw [nV];omega),cond_true,EU (now:=at' ls' (i+1)) hp ht hm _ (by omega),if_neg hne,Option.bind_some]
     simp only [show Nat.beq 2 0=false from rfl,cond_false]
     rw [av (by rw [nV];omega)]
  ·refine⟨1,by omega, ?_⟩
   unfold Py
   rw [if_neg hlt]
   refine⟨kn, ?_⟩
   have:decide ((i:Int)<((rL ls fb).length:Int))=false:=decide_eq_false (by rw [nV];omega)
   rw [aG]
   unfold aX
   simp only [this,cond_false]
theorem QA: ∀(F i:Nat) (ls:List State) (fb:List (Int × af)),Rc p most ls fb→UW p most 0 (Py p t most F i ls fb)
 |0,_,ls,fb,h=> ⟨h,Nat.zero_le _⟩
 |F+1,i,ls,fb,h=>by
  unfold Py
  by_cases hlt:i<ls.length
  ·rw [if_pos hlt]
   have hok:=CX hp ht hm (h.vs _ (at_mem hlt)) i t.allowed.length 0 ls fb h hlt
   revert hok
   cases Mc p t most (at' ls i) i t.allowed.length 0 ls fb with
   |go ls' fb'=>exact fun hok=>QA F (i+1) ls' fb' hok.1
   |large=>exact fun _=>trivial
   |found ls' fb'=>exact fun hok=> ⟨hok.1,by have:=hok.2;omega⟩
  ·rw [if_neg hlt];exact⟨h,Nat.zero_le _⟩
end
theorem Lp {p:au} {s:State} (hs:VS p s) {most:Int} (hm:1≤most∧most≤20000) (x:af):Rc p most [s] [(-1,x)]:=
 ⟨fun u hu=>by rw [List.mem_singleton]at hu;rw [hu];exact hs,rfl,by simp,by simp;omega,fun j hj h0=>by simp at hj;omega⟩
theorem ET {p:au} {most:Int} {ls:List State} {fb:List (Int × af)} (h:Rc p most ls fb) (hm:most≤20000) {j:Nat} (hj:j<ls.length) (kn:List (List Bool × Bool)):
  bW (j:Int) ⟨rL ls fb,kn⟩=some (path fb j):=by
 have hll:=h.most;have hlen:=h.len
 have run: ∀(n j:Nat) (out:List af),j<ls.length→j<n→out.length+n≤100000→ ∃m,m≤n+1∧aC (dW ⟨rL ls fb,kn⟩) m ((j:Int),out)=some (.brk (out++(qE fb n (j:Int)).reverse)):=by
  intro n
  induction n with
  |zero=>intro j out _ h1 _;omega
  |succ n ih=>
   intro j out hj h1 ho
   by_cases c:(j:Int)≤0
   ·refine⟨1,by omega, ?_⟩
    rw [aG]
    unfold dW qE
    have:decide ((0:Int)<(j:Int))=false:=decide_eq_false (by omega)
    simp only [this,cond_false,if_pos c,List.reverse_nil,List.append_nil]
   ·have hf:=h.from_ j (by omega) (by omega)
    have hb:dW ⟨rL ls fb,kn⟩ ((j:Int),out)=some (.next ((at' fb j).1,out++[(at' fb j).2])):=by
     unfold dW
     simp only [Int.toNat_natCast]
     have e1:at' (rL ls fb) j=⟨at' ls j,(at' fb j).1,(at' fb j).2⟩:=by unfold rL;rw [iy hj]
     rw [vE (by omega),cond_true,av ⟨by rw [nV];omega,by simp only [List.length_singleton];omega,by simp only [List.length_singleton];omega⟩,av (by rw [nV];omega),e1]
    have e:(at' fb j).1=(((at' fb j).1.toNat:Nat):Int):=by omega
    obtain⟨m,hm1,hm2⟩:=ih (at' fb j).1.toNat (out++[(at' fb j).2]) (by omega) (by omega) (by simp only [List.length_append,List.length_singleton];omega)
    refine⟨m+1,by omega, ?_⟩
    rw [aG,hb]
    simp only
    rw [e,hm2]
    conv=>rhs;rw [qE]
    rw [if_neg c,Int.toNat_natCast,List.reverse_append,←e]
    simp
 obtain⟨m,hm1,hm2⟩:=run (j+1) j [] hj (by omega) (by simp;omega)
 unfold bW
 rw [dX hm2 (by unfold FUEL;omega)]
 simp only [List.nil_append,Option.bind_some]
 have hpl:=Gc fb (j+1) (j:Int)
 rw [MR _ (by rw [List.length_reverse];omega),Option.bind_some,av (by simp),List.reverse_reverse]
 rfl
def pL (fb:List (Int × af)):List (List af):=tab fb.length (path fb)
theorem Wx {p:au} {most:Int} {ls:List State} {fb:List (Int × af)} (h:Rc p most ls fb) {i:Nat} (hi:i<fb.length) (x:af):pL fb++[path fb i++[x]]=pL (fb++[((i:Int),x)]):=by
 apply nU (by simp [pL,bG])
 intro j hj
 unfold pL at hj ⊢
 rw [List.length_append,List.length_singleton,bG]at hj
 rw [iy (by rw [List.length_append,List.length_singleton];exact hj)]
 by_cases e:j<fb.length
 ·rw [wN (by rw [bG];exact e),iy e,Qv h e]
 ·have e2:j=fb.length:=by omega
  have:=zk (tab fb.length (path fb)) (path fb i++[x])
  rw [bG]at this
  rw [e2,this,LQ h hi]
abbrev FR:=List af × List State × Int
def Wv (o:Option (Ex (List State × List (List af)) (bE (List State × List (List af) × Int) (Ex (List State) FR)))):Out→Prop
 | .go ls fb=>o=some (.brk (ls,pL fb))
 | .large=>o=some (.ret (.done (.ret ([],[],8))))
 | .found ls fb=>o=some (.ret (.done (.ret (path fb (ls.length - 1),[],0))))
def VG (o:Option (Ex (List State) FR)):Out→Prop
 | .go ls fb=>o=some (.brk ls)
 | .large=>o=some (.ret ([],[],8))
 | .found ls fb=>o=some (.ret (path fb (ls.length - 1),[],0))
section
variable {p:au} (hp:VP p) {t:Task} (ht:ol p t=true) (hst:j4 t) {most:Int} (hm:1≤most∧most≤20000)
include hp ht hst hm
theorem Jc (i:Nat): ∀(n k:Nat) (ls:List State) (fb:List (Int × af)),Rc p most ls fb→i<ls.length→k+n=t.allowed.length→
  ∃m,m≤n+1∧Wv (aC (gG p t most (i:Int)) m (ls,pL fb,(k:Int))) (Mc p t most (at' ls i) i n k ls fb)
 |0,k,ls,fb,h,hi,hkn=>by
  refine⟨1,by omega, ?_⟩
  show _=_
  have:decide ((k:Int)<(t.allowed.length:Int))=false:=decide_eq_false (by omega)
  rw [aG]
  unfold gG
  simp only [this,cond_false]
 |n+1,k,ls,fb,h,hi,hkn=>by
  obtain⟨_,_,⟨al,ax⟩,⟨gl,gx⟩⟩:=eU ht
  have hll:=h.most;have hlen:=h.len
  have hn:VS p (at' ls i):=h.vs _ (at_mem hi)
  have hroom: ∀x∈ls,Ae x:=fun x hx=>VS.room hp (h.vs x hx)
  have hpl:(path fb i).length≤20001:=by have:=Gc fb (i+1) (i:Int);unfold path;omega
  have hpi:at' (pL fb) i=path fb i:=by unfold pL;rw [iy (by omega)]
  have hpn:(pL fb).length=fb.length:=bG _ _
  obtain⟨ri,ri1,ri2⟩:=Eu (l:=ls) (by omega) hroom (nextR p (at' ls i) t (at' t.allowed k)).1
  have hb:gG p t most (i:Int) (ls,pL fb,(k:Int))=
    (if(nextR p (at' ls i) t (at' t.allowed k)).2≠0 then some (.next (ls,pL fb,((k+1:Nat):Int)))else
     if(nextR p (at' ls i) t (at' t.allowed k)).1∈ls then some (.next (ls,pL fb,((k+1:Nat):Int)))else
     if most<((ls++[(nextR p (at' ls i) t (at' t.allowed k)).1]).length:Int)then some (.done (.ret (.done (.ret ([],[],8)))))else
     if BN (nextR p (at' ls i) t (at' t.allowed k)).1 t.goal=true then some (.done (.ret (.done (.ret (path fb i++[at' t.allowed k],[],0)))))else
     some (.next (ls++[(nextR p (at' ls i) t (at' t.allowed k)).1],pL fb++[path fb i++[at' t.allowed k]],((k+1:Nat):Int)))):=by
   unfold gG
   simp only [Int.toNat_natCast]
   rw [vE (by omega),cond_true,Bn hp hn,Option.bind_some,av ⟨by omega,by omega⟩,wr (by omega)]
   by_cases h0:Hw p (at' ls i) (at' t.allowed k)=0
   ·have e:GI p (at' ls i) (at' t.allowed k)=(ow (at' ls i) (at' t.allowed k),0):=by unfold GI;rw [if_pos h0]
    have en:nextR p (at' ls i) t (at' t.allowed k)=(ow (at' ls i) (at' t.allowed k),Am p (ow (at' ls i) (at' t.allowed k)) t):=by unfold nextR;rw [if_pos h0]
    have ha:=VS.Zr hp hn (yH h0).1
    rw [en]at ri1 ri2
    rw [e,en]
    simp only at ri1 ri2 ⊢
    simp only [decide_true,Bool.not_true,gB,Bool.and_true,show(false==false)=true from rfl,cond_true,cond_false]
    rw [jP (VP.small hp) _ hst,Jv hp ha ht,Option.bind_some]
    by_cases h2:Am p (ow (at' ls i) (at' t.allowed k)) t=0
    ·rw [if_neg (by simp [h2]),h2]
     simp only [decide_true,Bool.not_true,gB,Bool.and_true,show(false==false)=true from rfl,cond_true,cond_false]
     rw [ri1,Option.bind_some]
     by_cases h3:ow (at' ls i) (at' t.allowed k)∈ls
     ·rw [if_pos h3,decide_eq_true (ri2.2 h3),cond_true];rfl
     ·rw [if_neg h3,decide_eq_false (fun q=>h3 (ri2.1 q)),cond_false]
      have hcs:fC (at' (pL fb) i)=some (path fb i):=by
       rw [hpi];unfold fC;rw [av (by omega)]
      rw [av ⟨by simp only [List.length_singleton];omega,by simp only [List.length_singleton];omega⟩,hcs,Option.bind_some]
      rw [av ⟨by rw [hpn];omega,by omega,by simp only [List.length_singleton];omega,by simp only [List.length_singleton];omega⟩]
      rw [av ⟨by simp only [List.length_singleton,hpn];omega,by simp only [List.length_singleton,hpn];omega⟩]
      by_cases h4:most<((ls++[ow (at' ls i) (at' t.allowed k)]).length:Int)
      ·rw [if_pos h4,decide_eq_true h4,cond_true]
      ·rw [if_neg h4,decide_eq_false h4,cond_false,CW ha (by omega) gx,Option.bind_some]
       cases BN (ow (at' ls i) (at' t.allowed k)) t.goal with
       |true=>rw [if_pos rfl,cond_true]
       |false=>rw [if_neg (by simp),cond_false];rfl
    ·rw [if_pos (by simpa using h2)]
     simp only [decide_eq_false h2,Bool.not_false,gB,Bool.and_true,show(true==false)=false from rfl,cond_true,cond_false,Option.bind_some]
     rfl
   ·have e:GI p (at' ls i) (at' t.allowed k)=(gm,Hw p (at' ls i) (at' t.allowed k)):=by unfold GI;rw [if_neg h0]
    have en:nextR p (at' ls i) t (at' t.allowed k)=(gm,Hw p (at' ls i) (at' t.allowed k)):=by unfold nextR;rw [if_neg h0]
    rw [e,en]
    simp only
    rw [if_pos (by simpa using h0)]
    simp only [decide_eq_false h0,Bool.not_false,gB,Bool.and_true,show(true==false)=false from rfl,cond_true,cond_false,Option.bind_some]
    rfl
  unfold Mc
  split
  ·rename_i h1
   rw [if_pos h1]at hb
   obtain⟨m,hm1,hm2⟩:=Jc i n (k+1) ls fb h hi (by omega)
   refine⟨m+1,by omega, ?_⟩
   rw [aG,hb];exact hm2
  ·rename_i h1
   rw [if_neg h1]at hb
   have hv:=wE hp hn (Decidable.not_not.1 h1)
   have hvs:VS p (nextR p (at' ls i) t (at' t.allowed k)).1:=by rw [hv.2.1];exact hv.2.2.1
   split
   ·rename_i h2
    rw [if_pos h2]at hb
    obtain⟨m,hm1,hm2⟩:=Jc i n (k+1) ls fb h hi (by omega)
    refine⟨m+1,by omega, ?_⟩
    rw [aG,hb];exact hm2
   ·rename_i h2
    rw [if_neg h2]at hb
    split
    ·rename_i h3
     rw [if_pos h3]at hb
     exact⟨1,by omega,by show _=_;rw [aG,hb]⟩
    ·rename_i h3
     rw [if_neg h3]at hb
     have hr:=h.add hvs hi (x:=at' t.allowed k) (by omega)
     split
     ·rename_i h4
      rw [if_pos h4]at hb
      refine⟨1,by omega, ?_⟩
      show _=_
      rw [aG,hb]
      have e1:(ls++[(nextR p (at' ls i) t (at' t.allowed k)).1]).length - 1=fb.length:=by rw [List.length_append,List.length_singleton];omega
      rw [e1,LQ h (by omega)]
     ·rename_i h4
      rw [if_neg h4]at hb
      have hat:at' (ls++[(nextR p (at' ls i) t (at' t.allowed k)).1]) i=at' ls i:=wN hi
      obtain⟨m,hm1,hm2⟩:=Jc i n (k+1) _ _ hr (by rw [List.length_append,List.length_singleton];omega) (by omega)
      rw [hat]at hm2
      refine⟨m+1,by omega, ?_⟩
      rw [aG,hb]
      simp only
      rw [Wx h (by omega)]
      exact hm2
theorem QV: ∀(F i:Nat) (ls:List State) (fb:List (Int × af)),Rc p most ls fb→i≤ls.length→most<(i:Int)+(F:Int)→
  ∃m,m≤F+1∧VG (aC (fD p t most) m (ls,pL fb,(i:Int))) (Py p t most F i ls fb)
 |0,i,ls,fb,h,hi,hF=>by have:=h.most;omega
 |F+1,i,ls,fb,h,hi,hF=>by
  have hll:=h.most
  by_cases hlt:i<ls.length
  ·obtain⟨m0,hm0,hres⟩:=Jc hp ht hst hm i t.allowed.length 0 ls fb h hlt (by omega)
   have hal:=(eU ht).2.2.1.1
   have hok:=CX hp ht hm (h.vs _ (at_mem hlt)) i t.allowed.length 0 ls fb h hlt
   have hE: ∀o,aC (gG p t most (i:Int)) m0 (ls,pL fb,((0:Nat):Int))=some o→aC (gG p t most (i:Int)) FUEL (ls,pL fb,0)=some o:=fun o ho=>dX ho (by unfold FUEL;omega)
   unfold Py
   rw [if_pos hlt]
   revert hres hok
   cases Mc p t most (at' ls i) i t.allowed.length 0 ls fb with
   |go ls' fb'=>
    intro ho hok
    obtain⟨m,hm1,hm2⟩:=QV F (i+1) ls' fb' hok.1 (by have:=hok.2;omega) (by omega)
    refine⟨m+1,by omega, ?_⟩
    rw [aG]
    unfold fD
    simp only
    rw [vE (by omega),cond_true,hE _ ho,Option.bind_some,wr (by omega)]
    exact hm2
   |large=>
    intro ho _
    refine⟨1,by omega, ?_⟩
    show _=_
    rw [aG]
    unfold fD
    simp only
    rw [vE (by omega),cond_true,hE _ ho,Option.bind_some]
   |found ls' fb'=>
    intro ho _
    refine⟨1,by omega, ?_⟩
    show _=_
    rw [aG]
    unfold fD
    simp only
    rw [vE (by omega),cond_true,hE _ ho,Option.bind_some]
  ·refine⟨1,by omega, ?_⟩
   unfold Py
   rw [if_neg hlt]
   show _=_
   have:decide ((i:Int)<(ls.length:Int))=false:=decide_eq_false (by omega)
   rw [aG]
   unfold fD
   simp only [this,cond_false]
end
noncomputable def NU (p:au) (s:State) (t:Task) (most:Int):FR:=
 if qz p s t≠0 then([],[],qz p s t)else if most<1∨20000<most then([],[],1)else if BN s t.goal=true then([],[],0)else
  match Py p t most 20002 0 [s] [(-1,⟨0,0⟩)]with
  | .go ls _=>([],ls,4)
  | .large=>([],[],8)
  | .found ls fb=>(path fb (ls.length - 1),[],0)
theorem EW {p:au} (hp:Small p) (s:State) {t:Task} (hst:j4 t) (most:Int):rJ p s t most=some (NU p s t most):=by
 unfold rJ NU
 rw [jP hp s hst,Option.bind_some]
 by_cases h:qz p s t=0
 ·obtain⟨h1,h2,h3,h4⟩:=kL h
  rw [if_neg (by simp [h]),h]
  simp only [decide_true,Bool.not_true,cond_false]
  by_cases hmm:most<1∨20000<most
  ·rw [if_pos hmm,eH]
   have:(decide (most<1)||decide (20000<most))=true:=by
    rw [Bool.or_eq_true,decide_eq_true_iff,decide_eq_true_iff];exact hmm
   rw [this];rfl
  ·rw [if_neg hmm,eH]
   have:(decide (most<1)||decide (20000<most))=false:=by
    rw [Bool.or_eq_false_iff,decide_eq_false_iff_not,decide_eq_false_iff_not];exact⟨fun q=>hmm (.inl q),fun q=>hmm (.inr q)⟩
   rw [this,cond_false]
   obtain⟨_,_,_,⟨gl,gx⟩⟩:=eU h3
   rw [CW h2 (by omega) gx,Option.bind_some]
   cases BN s t.goal with
   |true=>rw [if_pos rfl];rfl
   |false=>
    rw [if_neg (by simp),cond_false]
    have hm:1≤most∧most≤20000:=by omega
    obtain⟨m,hm1,hm2⟩:=QV h1 h3 hst hm 20002 0 [s] [(-1,⟨0,0⟩)] (Lp h2 hm _) (by simp) (by omega)
    have e:pL [((-1:Int),(⟨0,0⟩:af))]=[([]:List af)]:=by
     simp [pL,tab,path,qE]
    rw [e]at hm2
    revert hm2
    cases Py p t most 20002 0 [s] [(-1,⟨0,0⟩)]with
    |go ls fb=>intro ho;rw [show(0:Int)=((0:Nat):Int)from rfl,dX ho (by unfold FUEL;omega)];rfl
    |large=>intro ho;rw [show aC (fD p t most) FUEL ([s],[[]],0)=_ from dX ho (by unfold FUEL;omega)];rfl
    |found ls fb=>intro ho;rw [show aC (fD p t most) FUEL ([s],[[]],0)=_ from dX ho (by unfold FUEL;omega)];rfl
 ·rw [if_pos h];simp [h]
theorem Ps (ls:List State) (fb:List (Int × af)) (kn:List (List Bool × Bool)) (hl:ls.length≤100000):bZ [] ⟨rL ls fb,kn⟩=some ls:=by
 have key:aC (cu ⟨rL ls fb,kn⟩) FUEL (ls.take 0,((0:Nat):Int))=some (.brk (ls.take ls.length)):=by
  refine dS (body:=cu ⟨rL ls fb,kn⟩) (fun i=>(ls.take i,(i:Int))) ls.length _ (fuel_lt (by omega)) (fun i hi=> ?_) ?_
  ·have e1:(at' (rL ls fb) i).s_=at' ls i:=by unfold rL;rw [iy hi]
   unfold cu oC
   simp only [Int.toNat_natCast,e1]
   rw [vE (by rw [nV];omega),cond_true,av ⟨by simp only [List.length_take,List.length_singleton];omega,by simp only [List.length_take,List.length_singleton];omega⟩,Option.bind_some,av (by rw [nV];omega),wr (by omega),mK hi]
   rfl
  ·unfold cu
   have:decide ((ls.length:Int)<((rL ls fb).length:Int))=false:=decide_eq_false (by rw [nV];omega)
   simp only [this,cond_false]
 rw [List.take_length]at key
 unfold bZ
 rw [show aC (cu ⟨rL ls fb,kn⟩) FUEL ([],0)=_ from key];rfl
theorem NK {p:au} (hp:Small p) (s:State) {t:Task} (hst:j4 t) (most:Int):fQ p s t most=some (NU p s t most):=by
 unfold fQ NU
 rw [rX hp s hst,Option.bind_some]
 by_cases h:qz p s t=0
 ·obtain⟨h1,h2,h3,h4⟩:=kL h
  rw [if_neg (by simp [h]),h]
  simp only [decide_true,Bool.not_true,cond_false]
  by_cases hmm:most<1∨20000<most
  ·rw [if_pos hmm,eH]
   have:(decide (most<1)||decide (20000<most))=true:=by
    rw [Bool.or_eq_true,decide_eq_true_iff,decide_eq_true_iff];exact hmm
   rw [this];rfl
  ·rw [if_neg hmm,eH]
   have:(decide (most<1)||decide (20000<most))=false:=by
    rw [Bool.or_eq_false_iff,decide_eq_false_iff_not,decide_eq_false_iff_not];exact⟨fun q=>hmm (.inl q),fun q=>hmm (.inr q)⟩
   rw [this,cond_false]
   obtain⟨_,_,⟨al,_⟩,⟨gl,gx⟩⟩:=eU h3
   have hm:1≤most∧most≤20000:=by omega
   have hadd:=add_eq (ls:=[]) (x:=⟨[],[]⟩) Kn.nil h2 (-1) ⟨0,0⟩ (by simp)
   rw [Ht s (VS.small h1 h2),Option.bind_some,hadd]
   simp only [List.not_mem_nil,decide_false,cond_false,Option.bind_some]
   rw [Js h2 (by omega) gx,Option.bind_some]
   have e0:([]:List Reached)++[(⟨s, -1,⟨0,0⟩⟩:Reached)]=rL [s] [(-1,⟨0,0⟩)]:=by simp [rL,tab,at']
   have hkn:Kn p [s] (fB (rR 280) (qf s) true []):=by have:=(Kn.nil (p:=p)).add h1 h2;simpa using this
   rw [e0]
   generalize hk0:fB (rR 280) (qf s) true ([]:List (List Bool × Bool))=k0 at hkn
   have hrc:=Lp h2 hm (⟨0,0⟩:af)
   cases hmet:BN s t.goal with
   |true=>
    rw [if_pos rfl]
    simp only [cond_true,cO,Option.bind_some]
    have hz:bS p t most [] [] 0 0 ⟨rL [s] [(-1,⟨0,0⟩)],k0⟩=some (if t.allowed=[]then(0,[],[],0,0,⟨rL [s] [(-1,⟨0,0⟩)],k0⟩)else(2,[],[],0,0,⟨rL [s] [(-1,⟨0,0⟩)],k0⟩)):=by
     unfold bS
     obtain⟨k,hk⟩: ∃k,FUEL=k+1+1:=⟨1180591620717411303422,rfl⟩
     rw [hk,aG]
     have hs0:(at' (rL [s] [(-1,⟨0,0⟩)]) 0).s_=s:=rfl
     have b0:aX p t most ([],[],0,rL [s] [(-1,⟨0,0⟩)],k0,0,0)=some (if t.allowed=[]then .next ([],[],0,rL [s] [(-1,⟨0,0⟩)],k0,0,1)else .done (.ret (2,[],[],0,0,⟨rL [s] [(-1,⟨0,0⟩)],k0⟩))):=by
      unfold aX
      simp only
      have hll:((rL [s] [((-1:Int),(⟨0,0⟩:af))]).length:Int)=1:=rfl
      rw [hll,show decide ((0:Int)<1)=true from rfl,cond_true,show((0:Int)).toNat=0 from rfl,hs0,EU (now:=s) h1 h3 hm 0 (Int.le_refl 0)]
      by_cases ha:t.allowed=[]
      ·rw [if_pos ha,if_pos ha];rfl
      ·rw [if_neg ha,if_neg ha];rfl
     rw [b0]
     by_cases ha:t.allowed=[]
     ·rw [if_pos ha,if_pos ha]
      simp only
      rw [aG]
      rfl
     ·rw [if_neg ha,if_neg ha];rfl
    rw [hz,Option.bind_some]
    have hpr:=ET hrc hm.2 (j:=0) (by simp) k0
    have hpth:path [((-1:Int),(⟨0,0⟩:af))] 0=[]:=by simp [path,qE]
    rw [hpth]at hpr
    have hpr':bW 0 ⟨rL [s] [(-1,⟨0,0⟩)],k0⟩=some []:=hpr
    by_cases ha:t.allowed=[]
    ·rw [if_pos ha]
     simp only [show Nat.beq 0 0=true from rfl,cond_true,show decide ((0:Int)≤0)=true from rfl]
     rw [hpr'];rfl
    ·rw [if_neg ha]
     simp only [show Nat.beq 2 0=false from rfl,show Nat.beq 2 2=true from rfl,cond_true,cond_false,show decide ((0:Int)≤0)=true from rfl]
     rw [hpr'];rfl
   |false=>
    rw [if_neg (by simp)]
    simp only [cond_false,cO,Option.bind_some]
    obtain⟨m,hm1,hm2⟩:=NA h1 h3 hm 20002 0 [s] [(-1,⟨0,0⟩)] k0 hrc (by simp) hkn (by omega)
    have hok:=QA h1 h3 hm 20002 0 [s] [(-1,⟨0,0⟩)] hrc
    have hE: ∀o,aC (aX p t most) m ([],[],0,rL [s] [(-1,⟨0,0⟩)],k0, -1,((0:Nat):Int))=some o→aC (aX p t most) FUEL ([],[],0,rL [s] [(-1,⟨0,0⟩)],k0, -1,0)=some o:=fun o ho=>dX ho (by unfold FUEL;omega)
    revert hm2 hok
    cases Py p t most 20002 0 [s] [(-1,⟨0,0⟩)]with
    |go ls fb=>
     rintro ⟨kn,ho⟩ hok
     have hll:=hok.1.most
     unfold bS
     rw [hE _ ho]
     simp only [Option.bind_some,show Nat.beq 0 0=true from rfl,cond_true,show decide ((0:Int)≤ -1)=false from rfl,cond_false]
     rw [Ps ls fb kn (by omega)];rfl
    |large=>
     rintro ⟨f,x,ho⟩ _
     unfold bS
     rw [hE _ ho]
     simp only [Option.bind_some,show Nat.beq 3 0=false from rfl,show Nat.beq 3 2=false from rfl,cond_false]
     rfl
    |found ls fb=>
     rintro ⟨kn,ho⟩ hok
     have hpos:=hok.1.pos
     unfold bS
     rw [hE _ ho]
     simp only [Option.bind_some,show Nat.beq 2 0=false from rfl,show Nat.beq 2 2=true from rfl,cond_false,cond_true]
     rw [decide_eq_true (show(0:Int)≤(ls.length:Int) - 1 by omega),cond_true]
     have hpr:=ET hok.1 hm.2 (j:=ls.length - 1) (by omega) kn
     rw [show((ls.length - 1:Nat):Int)=(ls.length:Int) - 1 by omega]at hpr
     rw [hpr];rfl
 ·rw [if_pos h];simp [h]
noncomputable def yP (p:au) (t:Task) (y:State):Bool:= !decide (qz p y t=0)||BN y t.goal
noncomputable def xw (p:au) (t:Task) (l:List State) (y:State) (x:af):Bool:=decide ((nextR p y t x).2=0) && !decide ((nextR p y t x).1∈l)
noncomputable def Ee (p:au) (s:State) (t:Task) (l:List State):Int:=
 if qz p s t≠0 then qz p s t else if 20000<l.length then 2 else bif l.any (yP p t)then 7 else bif !decide (s∈l)then 7 else bif l.any (fun y=>t.allowed.any (xw p t l y))then 7 else 0
theorem Fe {p:au} {t:Task} {y:State} (h:yP p t y=false):qz p y t=0∧BN y t.goal=false:=by
 unfold yP at h
 rw [Bool.or_eq_false_iff,Bool.not_eq_false',decide_eq_true_iff]at h
 exact h
section
variable {p:au} (hp:VP p) {t:Task} (ht:ol p t=true) (hst:j4 t) {l:List State} (hl:l.length≤20000)
include hp ht hst hl
theorem UQ: ∀(n i:Nat) (x:Search),i+n=l.length→x.l.length≤i→Kn p (l.take i) x.known→
  ∃m,m≤n+1∧(((l.drop i).any (yP p t)=true∧aC (dm p t l) m (x.l,x.known,(i:Int))=some (.ret 7))∨
   ((l.drop i).any (yP p t)=false∧ ∃x':Search,Kn p l x'.known∧aC (dm p t l) m (x.l,x.known,(i:Int))=some (.brk (x'.l,x'.known))))
 |0,i,x,hi,hx,hk=>by
  refine⟨1,by omega, .inr ⟨?_,x, ?_, ?_⟩⟩
  ·rw [List.drop_eq_nil_of_le (by omega)];rfl
  ·rw [List.take_of_length_le (by omega)]at hk;exact hk
  ·have:decide ((i:Int)<(l.length:Int))=false:=decide_eq_false (by omega)
   rw [aG]
   unfold dm
   simp only [this,cond_false]
 |n+1,i,x,hi,hx,hk=>by
  have hlt:i<l.length:=by omega
  obtain⟨_,_,_,⟨gl,gx⟩⟩:=eU ht
  have hdrop:(l.drop i).any (yP p t)=(yP p t (at' l i)||(l.drop (i+1)).any (yP p t)):=by
   rw [List.drop_eq_getElem_cons hlt,List.any_cons,fI hlt]
  have htk:l.take (i+1)=l.take i++[at' l i]:=mK hlt
  by_cases h0:qz p (at' l i) t=0
  ·obtain⟨_,hv,_,_⟩:=kL h0
   cases hm:BN (at' l i) t.goal with
   |true=>
    refine⟨1,by omega, .inl ⟨?_, ?_⟩⟩
    ·rw [hdrop];unfold yP;rw [hm];simp
    ·rw [aG]
     unfold dm
     simp only [Int.toNat_natCast]
     rw [vE (by omega),cond_true,av (by omega),rX (VP.small hp) _ hst,h0,Option.bind_some]
     simp only [decide_true,Bool.not_true,gB,Bool.and_true,show(false==false)=true from rfl,cond_true,cond_false]
     rw [Js hv (by omega) gx,hm]
     rfl
   |false=>
    have hb:yP p t (at' l i)=false:=by unfold yP;rw [hm,h0];simp
    have hadd:=add_eq (x:=x) hk hv (-1) ⟨0,0⟩ (by omega)
    obtain⟨x2,hx2,hx2l,hk2⟩: ∃x2:Search,dR (at' l i) (-1) ⟨0,0⟩ x=some (!decide (at' l i∈l.take i),x2)∧x2.l.length≤i+1∧Kn p (l.take (i+1)) x2.known:=by
     by_cases hin:at' l i∈l.take i
     ·refine⟨x, ?_,by omega, ?_⟩
      ·rw [hadd,decide_eq_true hin];rfl
      ·intro u hu
       rw [hk u hu,htk,List.mem_append,List.mem_singleton]
       exact⟨fun q=> .inl q,fun q=>q.elim id fun e=>e ▸ hin⟩
     ·refine⟨⟨x.l++[⟨at' l i, -1,⟨0,0⟩⟩],fB (rR 280) (qf (at' l i)) true x.known⟩, ?_, ?_, ?_⟩
      ·rw [hadd,decide_eq_false hin];rfl
      ·simp;omega
      ·rw [htk];exact hk.add hp hv
    obtain⟨m,hm1,hm2⟩:=UQ n (i+1) x2 (by omega) hx2l hk2
    have hstep:dm p t l (x.l,x.known,(i:Int))=some (.next (x2.l,x2.known,((i+1:Nat):Int))):=by
     unfold dm
     simp only [Int.toNat_natCast]
     rw [vE (by omega),cond_true,av (by omega),rX (VP.small hp) _ hst,h0,Option.bind_some]
     simp only [decide_true,Bool.not_true,gB,Bool.and_true,show(false==false)=true from rfl,cond_true,cond_false]
     rw [Js hv (by omega) gx,hm,Option.bind_some,cond_false,show(⟨x.l,x.known⟩:Search)=x from rfl,hx2,Option.bind_some,wr (by omega)]
     rfl
    refine⟨m+1,by omega, ?_⟩
    rw [aG,hstep,hdrop,hb,Bool.false_or]
    exact hm2
  ·refine⟨1,by omega, .inl ⟨?_, ?_⟩⟩
   ·rw [hdrop];unfold yP;rw [decide_eq_false h0];simp
   ·rw [aG]
    unfold dm
    simp only [Int.toNat_natCast]
    rw [vE (by omega),cond_true,av (by omega),rX (VP.small hp) _ hst,Option.bind_some]
    simp only [decide_eq_false h0,Bool.not_false,gB,Bool.and_true,show(true==false)=false from rfl,cond_true,cond_false,Option.bind_some]
theorem X9 {kn:List (List Bool × Bool)} (hk:Kn p l kn) (hv: ∀y∈l,VS p y):aC (lg p t l kn) FUEL 0=some (bif l.any (fun y=>t.allowed.any (xw p t l y))then .ret 7 else .brk ()):=by
 obtain⟨_,_,⟨al,ax⟩,_⟩:=eU ht
 rw [←jK l fun y=>t.allowed.any (xw p t l y)]
 refine dA l.length (fun i=>t.allowed.any (xw p t l (at' l i))) 7 (by omega) (fun i hi=> ?_) (by unfold lg;simp)
 have hvi:=hv _ (at_mem hi)
 have e2:aC (kZ p t l kn (i:Int)) FUEL 0=some (bif t.allowed.any (xw p t l (at' l i))then .ret (.done (.ret 7))else .brk ()):=by
  rw [←jK t.allowed (xw p t l (at' l i))]
  refine dA t.allowed.length (fun k=>xw p t l (at' l i) (at' t.allowed k)) (bE.done (Ex.ret (7:Int)):bE Int (Ex Unit Int)) (by omega) (fun k hk'=> ?_) (by unfold kZ;simp)
  unfold kZ xw
  simp only [Int.toNat_natCast]
  rw [vE (by omega),cond_true,av (by omega),JG hp hvi ht,Option.bind_some,wr (by omega)]
  by_cases h0:(nextR p (at' l i) t (at' t.allowed k)).2=0
  ·have hn:=wE hp hvi h0
   have hvn:VS p (nextR p (at' l i) t (at' t.allowed k)).1:=by rw [hn.2.1];exact hn.2.2.1
   rw [h0]
   simp only [decide_true,gB,Bool.and_true,beq_self_eq_true,cond_true,Bool.true_and]
   rw [FO,Option.bind_some,hk.has hvn]
   exact eZ _ _ _
  ·simp only [decide_eq_false h0,gB,Bool.and_true,show(false==true)=false from rfl,cond_false,Option.bind_some,Bool.false_and]
 unfold lg
 rw [vE (by omega),cond_true,av (by omega),e2,wr (by omega)]
 cases t.allowed.any (xw p t l (at' l i))<;>rfl
theorem Ws (hv: ∀y∈l,VS p y):aC (lH p t l) FUEL 0=some (bif l.any (fun y=>t.allowed.any (xw p t l y))then .ret 7 else .brk ()):=by
 obtain⟨_,_,⟨al,ax⟩,_⟩:=eU ht
 have hroom: ∀x∈l,Ae x:=fun x hx=>VS.room hp (hv x hx)
 rw [←jK l fun y=>t.allowed.any (xw p t l y)]
 refine dA l.length (fun i=>t.allowed.any (xw p t l (at' l i))) 7 (by omega) (fun i hi=> ?_) (by unfold lH;simp)
 have hvi:=hv _ (at_mem hi)
 have e2:aC (lC p t l (i:Int)) FUEL 0=some (bif t.allowed.any (xw p t l (at' l i))then .ret (.done (.ret 7))else .brk ()):=by
  rw [←jK t.allowed (xw p t l (at' l i))]
  refine dA t.allowed.length (fun k=>xw p t l (at' l i) (at' t.allowed k)) (bE.done (Ex.ret (7:Int)):bE Int (Ex Unit Int)) (by omega) (fun k hk'=> ?_) (by unfold lC;simp)
  unfold lC xw
  simp only [Int.toNat_natCast]
  rw [vE (by omega),cond_true,Bn hp hvi,Option.bind_some,av ⟨by omega,by omega⟩,wr (by omega)]
  by_cases h0:Hw p (at' l i) (at' t.allowed k)=0
  ·have e:GI p (at' l i) (at' t.allowed k)=(ow (at' l i) (at' t.allowed k),0):=by unfold GI;rw [if_pos h0]
   have en:nextR p (at' l i) t (at' t.allowed k)=(ow (at' l i) (at' t.allowed k),Am p (ow (at' l i) (at' t.allowed k)) t):=by unfold nextR;rw [if_pos h0]
   have ha:=VS.Zr hp hvi (yH h0).1
   rw [e,en]
   simp only [decide_true,gB,Bool.and_true,beq_self_eq_true,cond_true]
   rw [jP (VP.small hp) _ hst,Jv hp ha ht,Option.bind_some]
   obtain⟨ri,ri1,ri2⟩:=Eu (l:=l) (by omega) hroom (ow (at' l i) (at' t.allowed k))
   by_cases h2:Am p (ow (at' l i) (at' t.allowed k)) t=0
   ·simp only [h2,decide_true,cond_true,beq_self_eq_true,Bool.true_and]
    rw [ri1,Option.bind_some]
    have:decide (ri<0)= !decide (ow (at' l i) (at' t.allowed k)∈l):=by
     rw [Bool.eq_iff_iff,decide_eq_true_iff,Bool.not_eq_true',decide_eq_false_iff_not,←ri2];omega
    rw [this]
    exact eZ _ _ _
   ·simp only [decide_eq_false h2,cond_false,show(false==true)=false from rfl,Option.bind_some,Bool.false_and]
  ·have e:GI p (at' l i) (at' t.allowed k)=(gm,Hw p (at' l i) (at' t.allowed k)):=by unfold GI;rw [if_neg h0]
   have en:nextR p (at' l i) t (at' t.allowed k)=(gm,Hw p (at' l i) (at' t.allowed k)):=by unfold nextR;rw [if_neg h0]
   rw [e,en]
   simp only [decide_eq_false h0,gB,Bool.and_true,show(false==true)=false from rfl,cond_false,Option.bind_some,Bool.false_and]
 unfold lH
 rw [vE (by omega),cond_true,e2,wr (by omega)]
 cases t.allowed.any (xw p t l (at' l i))<;>rfl
theorem WE:aC (lF p t l) FUEL 0=some (bif l.any (yP p t)then .ret 7 else .brk ()):=by
 obtain⟨_,_,_,⟨gl,gx⟩⟩:=eU ht
 rw [←jK l (yP p t)]
 refine dA l.length (fun i=>yP p t (at' l i)) 7 (by omega) (fun i hi=> ?_) (by unfold lF;simp)
 unfold lF
 simp only [Int.toNat_natCast]
 rw [vE (by omega),cond_true,jP (VP.small hp) _ hst,Option.bind_some,wr (by omega)]
 unfold yP
 by_cases h0:qz p (at' l i) t=0
 ·obtain⟨_,hv,_,_⟩:=kL h0
  simp only [h0,decide_true,Bool.not_true,gB,Bool.and_true,show(false==false)=true from rfl,cond_true,cond_false,Bool.false_or]
  rw [CW hv (by omega) gx,Option.bind_some,av ⟨by omega,fun _=>by omega⟩]
  exact eZ _ _ _
 ·simp only [decide_eq_false h0,Bool.not_false,gB,Bool.and_true,show(true==false)=false from rfl,cond_false,cond_true,Option.bind_some,Bool.true_or]
  rw [av ⟨by omega,fun _=>by omega⟩]
end
theorem Hg {p:au} (hp:Small p) (s:State) {t:Task} (hst:j4 t) (l:List State):ig p s t l=some (Ee p s t l):=by
 unfold ig Ee
 rw [rX hp s hst,Option.bind_some]
 by_cases h:qz p s t=0
 ·obtain⟨h1,h2,h3,h4⟩:=kL h
  rw [if_neg (by simp [h]),h]
  simp only [decide_true,Bool.not_true,cond_false]
  by_cases hl:20000<l.length
  ·rw [if_pos hl,decide_eq_true (show(20000:Int)<(l.length:Int) by omega),cond_true]
  ·rw [if_neg hl,decide_eq_false (show ¬ (20000:Int)<(l.length:Int) by omega),cond_false]
   obtain⟨m,hm1,hm2⟩:=UQ h1 h3 hst (l:=l) (by omega) l.length 0 ⟨[],[]⟩ (by omega) (by simp) (by rw [List.take_zero];exact Kn.nil)
   rw [List.drop_zero]at hm2
   rcases hm2 with⟨ha,hr⟩|⟨ha,x',hk,hr⟩
   ·rw [ha,show aC (dm p t l) FUEL ([],[],0)=_ from dX hr (by unfold FUEL;omega)];rfl
   ·rw [ha,show aC (dm p t l) FUEL ([],[],0)=_ from dX hr (by unfold FUEL;omega)]
    simp only [Option.bind_some,cond_false]
    rw [List.any_eq_false]at ha
    have hv: ∀y∈l,VS p y:=fun y hy=>(kL (Fe (by simpa using ha y hy)).1).2.1
    rw [FO,Option.bind_some,hk.has h2]
    cases decide (s∈l)with
    |false=>rfl
    |true=>
     simp only [Bool.not_true,cond_false]
     rw [X9 h1 h3 hst (by omega) hk hv]
     cases l.any (fun y=>t.allowed.any (xw p t l y))<;>rfl
 ·rw [if_pos h];simp [h]
theorem Ct {p:au} (hp:Small p) (s:State) {t:Task} (hst:j4 t) (l:List State):lX p s t l=some (Ee p s t l):=by
 unfold lX Ee
 rw [jP hp s hst,Option.bind_some]
 by_cases h:qz p s t=0
 ·obtain⟨h1,h2,h3,h4⟩:=kL h
  rw [if_neg (by simp [h]),h]
  simp only [decide_true,Bool.not_true,cond_false]
  by_cases hl:20000<l.length
  ·rw [if_pos hl,decide_eq_true (show(20000:Int)<(l.length:Int) by omega),cond_true]
  ·rw [if_neg hl,decide_eq_false (show ¬ (20000:Int)<(l.length:Int) by omega),cond_false,WE h1 h3 hst (by omega)]
   cases ha:l.any (yP p t)with
   |true=>rfl
   |false=>
    simp only [Option.bind_some,cond_false]
    rw [List.any_eq_false]at ha
    have hv: ∀y∈l,VS p y:=fun y hy=>(kL (Fe (by simpa using ha y hy)).1).2.1
    obtain⟨ri,ri1,ri2⟩:=Eu (l:=l) (by omega) (fun x hx=>VS.room h1 (hv x hx)) s
    rw [ri1,Option.bind_some]
    have:decide (ri<0)= !decide (s∈l):=by
     rw [Bool.eq_iff_iff,decide_eq_true_iff,Bool.not_eq_true',decide_eq_false_iff_not,←ri2];omega
    rw [this]
    cases decide (s∈l)with
    |false=>rfl
    |true=>
     simp only [Bool.not_true,cond_false]
     rw [Ws h1 h3 hst (by omega) hv]
     cases l.any (fun y=>t.allowed.any (xw p t l y))<;>rfl
 ·rw [if_pos h];simp [h]
def DZ:au:=⟨3,[⟨0,1,500,0,20⟩],[⟨0,1,3,400,10,[]⟩,⟨1,2,2,400,10,[]⟩],[⟨⟨2, -1⟩,100,1⟩]⟩
def Ay:State:=⟨[true,true],List.replicate 2 false,List.replicate 2 false,[true],List.replicate 1 false,List.replicate 3 false,List.replicate 3 false⟩
def exT:Task:=⟨[],[],[⟨1,0⟩,⟨2,0⟩,⟨1,1⟩,⟨2,1⟩],[⟨1,1⟩]⟩
def exU:Task:=⟨[0],[],[⟨1,0⟩,⟨2,0⟩,⟨1,1⟩,⟨2,1⟩],[⟨1,1⟩]⟩
theorem fw:Small DZ:=⟨by decide,by decide,by decide,fun x hx=>by
 simp only [DZ,List.mem_cons,List.not_mem_nil,or_false]at hx
 rcases hx with rfl|rfl<;>decide⟩
theorem H9:j4 exT:=⟨by decide,by decide,by decide,by decide⟩
theorem zw:j4 exU:=⟨by decide,by decide,by decide,by decide⟩
theorem XR:qP=some (DZ,Ay):=by kernel_rfl
theorem ex1:rJ DZ Ay exT 100=some ([⟨1,0⟩,⟨1,1⟩],[],0):=by kernel_rfl
theorem ex2:rJ DZ Ay exU 100=some ([],[Ay],4):=by kernel_rfl
theorem ex3:lX DZ Ay exU [Ay]=some 0:=by kernel_rfl
theorem aa8:fQ DZ Ay exT 100=some ([⟨1,0⟩,⟨1,1⟩],[],0):=(NK fw Ay H9 100).trans ((EW fw Ay H9 100).symm.trans ex1)
theorem ZM:fQ DZ Ay exU 100=some ([],[Ay],4):=(NK fw Ay zw 100).trans ((EW fw Ay zw 100).symm.trans ex2)
theorem aa4:ig DZ Ay exU [Ay]=some 0:=(Hg fw Ay zw [Ay]).trans ((Ct fw Ay zw [Ay]).symm.trans ex3)
theorem ex4:jw DZ Ay ⟨1,1⟩=some (gm,44):=by kernel_rfl
def exR:State:=⟨[false,false],List.replicate 2 false,List.replicate 2 false,[true],List.replicate 1 false,List.replicate 3 false,List.replicate 3 false⟩
def MB:State:=⟨[false,false],[false,true],List.replicate 2 false,[true],List.replicate 1 false,[false,false,true],List.replicate 3 false⟩
theorem ex5:oG DZ Ay ⟨[],[],[],[]⟩ [⟨1,0⟩,⟨1,1⟩]=some (2,exR,0):=by kernel_rfl
theorem ex6:jw DZ MB ⟨2,1⟩=some (gm,43):=by kernel_rfl
theorem ex7:oG DZ MB ⟨[],[2],[],[]⟩ [⟨6,1⟩]=some (0,gm,45):=by kernel_rfl
theorem ex8:dw DZ MB ⟨[],[2],[],[]⟩=some 0:=by kernel_rfl
theorem ex9:qN [⟨1,0⟩,⟨1,1⟩] [⟨1,0⟩,⟨1,1⟩]=some true:=by kernel_rfl
theorem Z6:bU exR.closed [false,false]=some true:=by kernel_rfl
theorem Pj {α:Type} {c:Bool} {a b:α} (h:c=false):(bif c then a else b)=b:=by rw [h];rfl
theorem aaW {α:Type} {c:Bool} {a b:α} (h:c=true):(bif c then a else b)=a:=by rw [h];rfl
theorem Lh:j4 ⟨[],[],[],[]⟩:=⟨by decide,by decide,by decide,by decide⟩
theorem BH:j4 ⟨[],[2],[],[]⟩:=⟨by decide,by decide,by decide,by decide⟩
theorem ZJ:jZ DZ Ay ⟨1,1⟩=some (gm,44):=(U6 fw Ay _).trans ((JP fw Ay _).symm.trans ex4)
theorem aaX:gq DZ Ay ⟨[],[],[],[]⟩ [⟨1,0⟩,⟨1,1⟩]=some (2,exR,0):=(Io fw Ay Lh _).trans ((BM fw Ay Lh _).symm.trans ex5)
theorem aa7:jZ DZ MB ⟨2,1⟩=some (gm,43):=(U6 fw MB _).trans ((JP fw MB _).symm.trans ex6)
theorem aak:gq DZ MB ⟨[],[2],[],[]⟩ [⟨6,1⟩]=some (0,gm,45):=(Io fw MB BH _).trans ((BM fw MB BH _).symm.trans ex7)
theorem aaG:eY DZ MB ⟨[],[2],[],[]⟩=some 0:=(rX fw MB BH).trans ((jP fw MB BH).symm.trans ex8)
theorem EF:nC=some true:=by
 unfold nC
 rw [XR,Option.bind_some]
 dsimp only
 rw [show fQ DZ Ay (⟨([]:List Int),([]:List Int),[(⟨1,0⟩:af),(⟨2,0⟩:af),(⟨1,1⟩:af),(⟨2,1⟩:af)],[(⟨1,1⟩:af)]⟩:Task) 100=_ from aa8,Option.bind_some,ZJ,Option.bind_some,Pj (by rfl),ex9,Option.bind_some,Pj (by rfl),aaX,Option.bind_some,Pj (by rfl),Z6,Option.bind_some,Pj (by rfl),
  show fQ DZ Ay (⟨[0],([]:List Int),[(⟨1,0⟩:af),(⟨2,0⟩:af),(⟨1,1⟩:af),(⟨2,1⟩:af)],[(⟨1,1⟩:af)]⟩:Task) 100=_ from ZM,Option.bind_some,Pj (by rfl),
  show ig DZ Ay (⟨[0],([]:List Int),[(⟨1,0⟩:af),(⟨2,0⟩:af),(⟨1,1⟩:af),(⟨2,1⟩:af)],[(⟨1,1⟩:af)]⟩:Task) [Ay]=_ from aa4,Option.bind_some,Pj (by rfl),av (by decide)]
 change Option.bind (jZ DZ MB ⟨2,1⟩) _=_
 rw [aa7,Option.bind_some]
 change Option.bind (gq DZ MB ⟨[],[2],[],[]⟩ [⟨6,1⟩]) _=_
 rw [aak,Option.bind_some,aaW (by rfl)]
 change Option.bind (eY DZ MB ⟨[],[2],[],[]⟩) _=_
 rw [aaG,Option.bind_some]
 rfl
theorem DX (l:List State) (h:l.length≤9223372036854775807) (hr: ∀x∈l,Ae x):mG l l=some true:=by
 unfold mG
 rw [decide_eq_true rfl]
 simp only [Bool.not_true,cond_false]
 have key:aC (jD l l) FUEL 0=some (.brk ()):= ?_
 ·rw [key];rfl
 refine Qf l h (fun i hi=> ?_) (by unfold jD;simp)
 unfold jD
 simp only [Int.toNat_natCast]
 rw [vE (by omega),cond_true,EA _ (hr _ (at_mem hi)),Option.bind_some,av (by omega),wr (by omega)]
 rfl
def TD (p:au) (t:Task):Bool:=(bif (bif (bif (bif (bif (bif (decide (60<(p.sources.length:Int)))then true else(decide (60<(p.links.length:Int))))then true else(decide (60<(p.racks.length:Int))))then true else(decide (60<(t.fed.length:Int))))then true else(decide (60<(t.crew.length:Int))))then true else(decide (60<(t.allowed.length:Int))))then true else(decide (60<(t.goal.length:Int))))
theorem Vt (p:au) (t:Task):yV p t=some (TD p t):=rfl
structure Jp (t:Task):Prop where
 f:t.fed.length≤60
 c:t.crew.length≤60
 a:t.allowed.length≤60
 g:t.goal.length≤60
structure Vo (p:au):Prop where
 s:p.sources.length≤60
 l:p.links.length≤60
 r:p.racks.length≤60
theorem Nv {p:au} {t:Task} (h:TD p t=false):Vo p∧Jp t:=by
 unfold TD at h
 simp only [eH,Bool.or_eq_false_iff,decide_eq_false_iff_not]at h
 obtain⟨⟨⟨⟨⟨⟨h1,h2⟩,h3⟩,h4⟩,h5⟩,h6⟩,h7⟩:=h
 exact⟨⟨by omega,by omega,by omega⟩,⟨by omega,by omega,by omega,by omega⟩⟩
theorem Jp.small {t:Task} (h:Jp t):j4 t:=by
 obtain⟨h1,h2,h3,h4⟩:=h
 exact⟨by omega,by omega,by omega,by omega⟩
theorem DL (l:List Int) (h:l.length≤60):lY l=some l:=by
 unfold lY;rw [av (by omega)]
theorem BZ (l:List af) (h:l.length≤1000):fC l=some l:=by
 unfold fC;rw [av (by omega)]
theorem V9 {t:Task} (h:Jp t):uH t=some t:=by
 obtain⟨h1,h2,h3,h4⟩:=h
 unfold uH
 rw [DL _ h1,DL _ h2,BZ _ (by omega),BZ _ (by omega)]
 rfl
end Sg

namespace Sg
open Go Go.ChangeShapes Go.WideShapes Go.RowKit Go.Deep
end Sg

namespace Sg
open Go Go.ChangeShapes Go.WideShapes Go.RowKit Go.Deep
structure Rz (P:Program) (t:TypeId) (n:Nat) {α:Type} (c:α→Nat→DV) (S:α→Prop):Prop where
 size:P.cellsOf t=n
 rd: ∀{H:Type} {enc:TypeId × Value→H} {w:World} {fuel:Nat} {cs:List Value} {x:DataW H × List MemPlace},DataW.trod enc P w 0 (fun _=>true) true fuel t cs=some x→(∀q∈x.1.weights P t,q≤reachBytes)→
  ∃a:α,S a∧cs.length=n∧ ∀j,j<n→ ∃u,cs[j]? =some u∧cK (zM w) w (c a j) u
section
variable {P:Program} {t e:TypeId}
theorem Rd.z {n:Nat} {α:Type} {c:α→Nat→DV} {S:α→Prop} (h:Rd P t n c S):Rz P t n c S:=⟨h.size,fun h1 _=>h.rd h1⟩
theorem o6 {H:Type}: ∀{l:List (DataW H)} {d:DataW H} {q:Nat},d∈l→q∈d.weights P e→q∈DataW.weightsAll P e l
 |[],_,_,h,_=>by cases h
 |d::r,d',q,h,hq=>by
  unfold DataW.weightsAll
  rw [List.mem_append]
  rcases List.mem_cons.1 h with rfl|h
  ·exact .inl hq
  ·exact .inr (o6 h hq)
open Classical in
theorem Rz.slice {n b:Nat} {α:Type} [Inhabited α] {c:α→Nat→DV} {S:α→Prop} (ht:P.underlying t=some (.slice e)) (hs:P.cellsOf t=1) (hn:0<n) (hb:P.bytesOf e=b) (he:Rz P e n c S):Rz P t 1 (RG n c) (fun l=>l.length≤9223372036854775807∧(∀x∈l,S x)∧l.length*b≤140737488351232):=by
 refine⟨hs,fun{H enc w fuel cs x} h hz=> ?_⟩
 rcases open_slice ht h with⟨rfl,_⟩|⟨a,len,cap,m,fu,D,Pl,rfl,hbl,hl,hm,hmm,hxx,hx⟩
 ·refine⟨[],⟨by simp,by simp,by simp⟩,rfl,fun j hj=> ?_⟩
  have:j=0:=by omega
  subst this
  exact⟨_,rfl,none,0,rfl,by simp,by simp,by simp,Nat.le_refl _,by simp⟩
 ·simp only [if_true]at hmm
  subst hmm
  have hwt:x.1.weights P t=(((List.range len).map D).length+((List.range (m - len)).map fun j=>D (len+j)).length)*P.bytesOf e::(DataW.weightsAll P e ((List.range len).map D)++DataW.weightsAll P e ((List.range (m - len)).map fun j=>D (len+j))):=by
   rw [hxx];simp only [DataW.weights,ht]
  rw [hwt]at hz
  have hzi: ∀i,i<m→ ∀q∈(D i).weights P e,q≤reachBytes:=fun i hi q hq=>by
   refine hz q (List.mem_cons_of_mem _ (List.mem_append.2 ?_))
   by_cases h1:i<len
   ·exact .inl (o6 (List.mem_map.2 ⟨i,List.mem_range.2 h1,rfl⟩) hq)
   ·exact .inr (o6 (List.mem_map.2 ⟨i - len,List.mem_range.2 (by omega),by rw [show len+(i - len)=i by omega]⟩) hq)
  have hz0:len*b≤140737488351232:=by
   have:=hz _ List.mem_cons_self
   rw [List.length_map,List.length_map,List.length_range,List.length_range,hb,show len+(m - len)=m by omega]at this
   have h2:len*b≤m*b:=Nat.mul_le_mul_right _ hl
   have h3:reachBytes=140737488351232:=by decide
   omega
  have hel: ∀i,i<m→ ∃y:α,S y∧ ∀j,j<n→a.spot=none∧ ∃u,w.cell? ⟨a.block,a.off+(i*n+j),none⟩=some u∧cK (zM w) w (c y j) u:=by
   intro i hi
   obtain⟨cs',h1,h2⟩:=hx i hi
   rw [he.size]at h1
   obtain⟨y,hy,hlen,hc⟩:=he.rd h2 (hzi i hi)
   obtain⟨_,hcl,hat⟩:=World.cells?_some h1
   obtain⟨cs0,h10,h20⟩:=hx 0 (by omega)
   rw [he.size]at h10
   obtain⟨y0,_,hlen0,hc0⟩:=he.rd h20 (hzi 0 (by omega))
   obtain⟨_,_,hat0⟩:=World.cells?_some h10
   obtain⟨u0,hu0,_⟩:=hc0 0 hn
   have hsp:a.spot=none:=by
    have:=(hat0 0 hn).trans hu0
    simp only [Nat.zero_mul]at this
    have h3:=cell_spot this
    simpa [Addr.add]using h3
   refine⟨y,hy,fun j hj=> ⟨hsp, ?_⟩⟩
   obtain⟨u,hu,hr⟩:=hc j hj
   refine⟨u, ?_,hr⟩
   have:=(hat j hj).trans hu
   rw [qc hsp,qc rfl]at this
   rw [←this];simp only [Nat.add_assoc]
  let pick:Nat→α:=fun i=>if h:i<m then Classical.choose (hel i h)else default
  have hpick: ∀i,i<m→S (pick i)∧ ∀j,j<n→a.spot=none∧ ∃u,w.cell? ⟨a.block,a.off+(i*n+j),none⟩=some u∧cK (zM w) w (c (pick i) j) u:=by
   intro i hi
   show S (dite _ _ _)∧_
   simp only [pick,dif_pos hi]
   exact Classical.choose_spec (hel i hi)
  let l:List α:=(List.range len).map pick
  have hll:l.length=len:=by simp [l]
  have hat: ∀i,i<len→at' l i=pick i:=fun i hi=>by simp [at',l,hi]
  refine⟨l,⟨by rw [hll];exact Nat.le_trans (Nat.le_trans hl hm) (by decide),fun x hx=> ?_,by rw [hll];exact hz0⟩,rfl,fun j hj=> ?_⟩
  ·obtain⟨i,hi,rfl⟩:=List.mem_map.mp hx
   exact(hpick i (Nat.lt_of_lt_of_le (List.mem_range.mp hi) hl)).1
  ·have:j=0:=by omega
   subst this
   refine⟨_,rfl,some a,m, ?_,by simp,by simp,by simp,by rw [hll];exact hl,fun ad ha=> ?_⟩
   ·simp [hll]
   ·cases ha
    refine⟨fun h0=> ?_,fun i hi j hj=> ?_⟩
    ·exact((hpick 0 (by omega)).2 0 hn).1
    ·rw [hll]at hi
     obtain⟨_,u,hu,hr⟩:=(hpick i (by omega)).2 j hj
     exact⟨N7 hu,u,hu,by show cK _ _ (c (at' l i) j) u;rw [hat i hi];exact hr⟩
theorem Rz.fields {fs:Array Field} {n:Nat} (ht:P.underlying t=some (.struct fs)) (hs:P.cellsOf t=n) {H:Type} {enc:TypeId × Value→H} {w:World} {fuel:Nat} {cs:List Value} {x:DataW H × List MemPlace}
  (h:DataW.trod enc P w 0 (fun _=>true) true fuel t cs=some x) (hz: ∀q∈x.1.weights P t,q≤reachBytes):cs.length=n∧ ∀(i:Nat) (f:Field),fs[i]? =some f→ ∃y,DataW.trod enc P w 0 (fun _=>true) true (fuel - 1) f.type ((cs.drop f.offset).take (P.cellsOf f.type))=some y∧ ∀q∈y.1.weights P f.type,q≤reachBytes:=by
 obtain⟨xs,m,rfl,hx,hl,hxl,hf⟩:=DataW.trod_struct ht h
 have hd:x.1= .agg (xs.map (·.1)):=congrArg Prod.fst hx
 refine⟨by rw [hl,hs],fun i f hi=> ?_⟩
 have hlt:=(Array.getElem?_eq_some_iff.mp hi).1
 have h1:=hf i f hi
 rw [List.getElem?_eq_getElem (by omega)]at h1
 refine⟨_,h1,fun q hq=>hz q ?_⟩
 rw [hd]
 simp only [DataW.weights,ht]
 refine DataW.weights_mem_each (j:=i) (t:=f.type) (d:=(xs[i]'(by omega)).1) ?_ ?_ _ hq
 ·rw [List.getElem?_map];simp [hi]
 ·rw [List.getElem?_map,List.getElem?_eq_getElem (by omega)];rfl
theorem Rz.field {n off:Nat} {α:Type} {c:α→Nat→DV} {S:α→Prop} (he:Rz P e n c S) {H:Type} {enc:TypeId × Value→H} {w:World} {fuel:Nat} {cs:List Value}
  (h: ∃y,DataW.trod enc P w 0 (fun _=>true) true fuel e ((cs.drop off).take (P.cellsOf e))=some y∧ ∀q∈y.1.weights P e,q≤reachBytes): ∃a:α,S a∧ ∀j,j<n→ ∃u,cs[off+j]? =some u∧cK (zM w) w (c a j) u:=by
 obtain⟨y,hy,hz⟩:=h
 rw [he.size]at hy
 obtain⟨a,ha,hl,hc⟩:=he.rd hy hz
 exact⟨a,ha,Dp hc⟩
theorem Rz.elems {m n:Nat} (ht:P.underlying t=some (.array m e)) (hs:P.cellsOf t=n) {H:Type} {enc:TypeId × Value→H} {w:World} {fuel:Nat} {cs:List Value} {x:DataW H × List MemPlace}
  (h:DataW.trod enc P w 0 (fun _=>true) true fuel t cs=some x) (hz: ∀q∈x.1.weights P t,q≤reachBytes):cs.length=n∧ ∀(i:Nat),i<m→ ∃y,DataW.trod enc P w 0 (fun _=>true) true (fuel - 1) e ((cs.drop (i*P.cellsOf e)).take (P.cellsOf e))=some y∧ ∀q∈y.1.weights P e,q≤reachBytes:=by
 obtain⟨xs,q,rfl,hx,hl,hxl,hf⟩:=DataW.trod_array ht h
 have hd:x.1= .agg (xs.map (·.1)):=congrArg Prod.fst hx
 refine⟨by rw [hl,hs],fun i hi=> ?_⟩
 have h1:=hf i hi
 rw [List.getElem?_eq_getElem (by omega)]at h1
 refine⟨_,h1,fun q hq=>hz q ?_⟩
 rw [hd]
 simp only [DataW.weights,ht]
 exact o6 (List.mem_map.2 ⟨_,List.getElem_mem _,rfl⟩) hq
theorem Rz.agg {n:Nat} {α:Type} {c:α→Nat→DV} {S:α→Prop} (hr:Rz P t n c S) {fs:Array Field} (ht:P.underlying t=some (.struct fs)) {W:World} {b0:Nat} {v:Value} (hv:Value.okWide P W .any b0 t v)
  {H:Type} {enc:TypeId × Value→H} {d:DataW H} {ps:List MemPlace} (h:DataW.Trod enc P W 0 (fun _=>true) true t v d ps) (hz: ∀q∈d.weights P t,q≤reachBytes):
  ∃a:α,S a∧gH (fun _=>none) (zM W) W (.agg ((List.range n).map fun j=> .d (c a j))) v:=by
 obtain⟨cs,rfl,hsz⟩:=okWide_struct ht hv
 obtain⟨fuel,hf⟩:=h
 obtain⟨a,ha,hl,hc⟩:=hr.rd hf hz
 refine⟨a,ha,cs.toList,by simp,bT.oN (by rw [List.length_map,List.length_range];exact hl) fun j x hx=> ?_⟩
 have hj:j<n:=by
  have:=(List.getElem?_eq_some_iff.mp hx).1
  simpa using this
 obtain⟨u,hu,hru⟩:=hc j hj
 refine⟨u,hu, ?_⟩
 simp [hj]at hx
 subst hx
 exact hru
theorem Rz.one {α:Type} {c:α→Nat→DV} {S:α→Prop} (hr:Rz P t 1 c S) {W:World} {v:Value} (hv:v.cells.toList=[v])
  {H:Type} {enc:TypeId × Value→H} {d:DataW H} {ps:List MemPlace} (h:DataW.Trod enc P W 0 (fun _=>true) true t v d ps) (hz: ∀q∈d.weights P t,q≤reachBytes): ∃a:α,S a∧gH (fun _=>none) (zM W) W (.one (.d (c a 0))) v:=by
 obtain⟨fuel,hf⟩:=h
 rw [hv]at hf
 obtain⟨a,ha,hl,hc⟩:=hr.rd hf hz
 obtain⟨u,hu,hru⟩:=hc 0 (by omega)
 simp at hu;subst hu
 exact⟨a,ha,hru⟩
end
theorem Gw (l:List State) (hl:l.length≤1000) (hr: ∀x∈l,Ae x):mr l=some l:=by
 have key:aC (fA l) FUEL (l.take 0,((0:Nat):Int))=some (.brk (l.take l.length)):=by
  refine dS (body:=fA l) (fun i=>(l.take i,(i:Int))) l.length _ (fuel_lt (by omega)) (fun i hi=> ?_) ?_
  ·unfold fA
   simp only [Int.toNat_natCast]
   rw [vE (by omega),cond_true,Er _ (hr _ (at_mem hi)),Option.bind_some,av ⟨by omega,by simp only [List.length_take,List.length_singleton];omega,by simp only [List.length_take,List.length_singleton];omega⟩,wr (by omega),mK hi]
   rfl
  ·unfold fA
   simp
 rw [List.take_length]at key
 unfold mr
 rw [show aC (fA l) FUEL ([],0)=_ from key];rfl
theorem CY {p:au} (s:State) (t:Task) (l:List State) (hp:Small p) (hr: ∀x∈l,Ae x):jC p s t l=some true:=by
 unfold jC
 rw [Vt,Option.bind_some]
 generalize hc:(bif (bif TD p t then true else(bif (decide (12<(t.allowed.length:Int)))then(decide ((t.allowed.length:Int)≤24))else false))then true else(decide (100<(l.length:Int))))=c
 cases c with
 |true=>rw [cond_true,EF];rfl
 |false=>
  simp only [eH,Bool.or_eq_false_iff]at hc
  obtain⟨⟨hb,_⟩,hl⟩:=hc
  have hl:=of_decide_eq_false hl
  obtain⟨h6,h7⟩:=Nv hb
  have hst:=h7.small
  rw [cond_false,V9 h7,Option.bind_some,Gw l (by omega) hr,Option.bind_some,Hg hp s hst,Option.bind_some,Ct hp s hst,Option.bind_some,DX _ (by omega) hr,EF]
  simp [gB]
end Sg
