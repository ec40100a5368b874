import Derived.Test.YtboodeobmgjjpaaGreatFaLe
import Derived.KernelRfl
set_option linter.all false
namespace Sg
open Go
abbrev PR:=Nat × List af × List State × Int × Int × Search
def Xp (p:au) (o:Option (Ex (List Reached × List (List Bool × Bool) × Int) PR)):Out→Prop
 | .go ls fb=> ∃kn,Kn p ls kn∧o=some (.brk (rL ls fb,kn, -1))
 | .large=> ∃f x,o=some (.ret (3,[],[],8,f,x))
 | .found ls fb=> ∃kn,Kn p ls kn∧(o=some (.ret (2,[],[],0,(ls.length:Int) - 1,⟨rL ls fb,kn⟩))∨o=some (.brk (rL ls fb,kn,(ls.length:Int) - 1)))
section
variable {p:au} (hp:VP p) {t:Task} (ht:og p t=true) {most:Int} (hm:1≤most∧most≤20000)
include hp ht hm
theorem Ef {now:State} (hn:VS p now) (i:Nat): ∀(n k:Nat) (ls:List State) (fb:List (Int × af)) (kn:List (List Bool × Bool)),Rc p most ls fb→i<ls.length→Kn p ls kn→k+n=t.allowed.length→
  ∃m,m≤n+2∧Xp p (aC (bO (i:Int) now.closed now.locked now.badLink now.on_ now.badSource now.earthed now.badBus p t most [] [] 0) m (rL ls fb,kn, -1,(k:Int))) (Md p t most now i n k ls fb)
 |0,k,ls,fb,kn,h,hi,hk,hkn=>by
  refine⟨1,by omega,kn,hk, ?_⟩
  have:decide ((k:Int)<(t.allowed.length:Int))=false:=decide_eq_false (by omega)
  rw [aG]
  unfold bO
  simp only [this,cond_false]
 |n+1,k,ls,fb,kn,h,hi,hk,hkn=>by
  obtain⟨_,_,⟨al,ax⟩,⟨gl,gx⟩⟩:=eH ht
  have hb:bO (i:Int) now.closed now.locked now.badLink now.on_ now.badSource now.earthed now.badBus p t most [] [] 0 (rL ls fb,kn, -1,(k:Int))=
    (bif (!decide ((nextR p now t (at' t.allowed k)).2=0))then some (.next (rL ls fb,kn, -1,((k+1:Nat):Int)))else
     (dP (nextR p now t (at' t.allowed k)).1 (i:Int) (at' t.allowed k) ⟨rL ls fb,kn⟩).bind fun r_1=>
      bif (!r_1.1)then some (.next (r_1.2.l,r_1.2.known, -1,((k+1:Nat):Int)))else
      bif (decide (most<(r_1.2.l.length:Int)))then some (.done (.ret (3,([]:List af),([]:List State),8, -1,r_1.2)))else
      (l7 (nextR p now t (at' t.allowed k)).1 t.goal).bind fun r_2=>
      bif r_2 then some (.next (r_1.2.l,r_1.2.known,(IntKind.wrap .i64 ((r_1.2.l.length:Int) - 1)),((k+1:Nat):Int)))else some (.next (r_1.2.l,r_1.2.known, -1,((k+1:Nat):Int)))):=by
   unfold bO
   simp only [Int.toNat_natCast]
   rw [vE (by omega),cond_true,av (by omega)]
   have h0:decide ((0:Int)≤ -1)=false:=by decide
   rw [h0,cond_false,show(⟨now.closed,now.locked,now.badLink,now.on_,now.badSource,now.earthed,now.badBus⟩:State)=now from rfl,JB hp hn ht,Option.bind_some,wr (x:=(k:Int)+1) (by omega)]
   rfl
  unfold Md
  by_cases h1:(nextR p now t (at' t.allowed k)).2=0
  ·have hv:=wu hp hn h1
   have hvs:VS p (nextR p now t (at' t.allowed k)).1:=by rw [hv.2.1];exact hv.2.2.1
   rw [if_neg (by simp [h1])]
   have hll:=h.most
   rw [h1,decide_eq_true rfl,Bool.not_true,cond_false,add_eq (x:=⟨rL ls fb,kn⟩) hk hvs (i:Int) (at' t.allowed k) (by show(rL ls fb).length≤_;rw [nW];omega),Option.bind_some]at hb
   by_cases h2:(nextR p now t (at' t.allowed k)).1∈ls
   ·rw [if_pos h2]
    rw [decide_eq_true h2]at hb
    simp only [cond_true,Bool.not_false]at hb
    obtain⟨m,hm1,hm2⟩:=Ef hn i n (k+1) ls fb kn h hi hk (by omega)
    refine⟨m+1,by omega, ?_⟩
    rw [aG,hb];exact hm2
   ·rw [if_neg h2]
    rw [decide_eq_false h2]at hb
    simp only [cond_false,Bool.not_true]at hb
    simp only [V6 h.len,nW]at hb
    by_cases h3:most<((ls++[(nextR p now t (at' t.allowed k)).1]).length:Int)
    ·rw [if_pos h3]
     rw [decide_eq_true h3,cond_true]at hb
     exact⟨1,by omega,_,_,by rw [aG,hb]⟩
    ·rw [if_neg h3]
     rw [decide_eq_false h3,cond_false,Jf hvs (by omega) gx,Option.bind_some]at hb
     have hr:=h.add hvs hi (x:=at' t.allowed k) (by omega)
     have hkn2:=hk.add hp hvs
     have hlen:((ls++[(nextR p now t (at' t.allowed k)).1]).length:Int)≤20000:=by omega
     cases h4:Am (nextR p now t (at' t.allowed k)).1 t.goal with
     |true=>
      rw [if_pos rfl]
      rw [h4,cond_true,wr (by omega)]at hb
      by_cases h5:k+1<t.allowed.length
      ·refine⟨2,by omega,_,hkn2, .inl ?_⟩
       rw [aG,hb]
       simp only
       rw [aG]
       unfold bO
       simp only [Int.toNat_natCast]
       rw [vE (by omega),cond_true,av (by omega)]
       have hps:=hr.pos
       rw [decide_eq_true (show(0:Int)≤((ls++[(nextR p now t (at' t.allowed k)).1]).length:Int) - 1 by omega)]
       rfl
      ·refine⟨2,by omega,_,hkn2, .inr ?_⟩
       rw [aG,hb]
       simp only
       rw [aG]
       unfold bO
       have:decide (((k+1:Nat):Int)<(t.allowed.length:Int))=false:=decide_eq_false (by omega)
       simp only [this,cond_false]
     |false=>
      rw [if_neg (by simp)]
      rw [h4,cond_false]at hb
      obtain⟨m,hm1,hm2⟩:=Ef hn i n (k+1) _ _ _ hr (by simp;omega) hkn2 (by omega)
      refine⟨m+1,by omega, ?_⟩
      rw [aG,hb];exact hm2
  ·rw [if_pos h1]
   rw [decide_eq_false h1,Bool.not_false,cond_true]at hb
   obtain⟨m,hm1,hm2⟩:=Ef hn i n (k+1) ls fb kn h hi hk (by omega)
   refine⟨m+1,by omega, ?_⟩
   rw [aG,hb];exact hm2
theorem E9 {now:State} (i:Int) {f:Int} (hf:0≤f) (x:Search):cK i now.closed now.locked now.badLink now.on_ now.badSource now.earthed now.badBus p t most [] [] 0 f x=
  some (if t.allowed=[]then(0,[],[],0,f,x)else(2,[],[],0,f,x)):=by
 obtain⟨_,_,⟨al,ax⟩,_⟩:=eH ht
 unfold cK
 have hF: ∃k,FUEL=k+1:=⟨1180591620717411303423,rfl⟩
 obtain⟨k,hk⟩:=hF
 rw [hk,aG]
 unfold bO
 by_cases h:t.allowed=[]
 ·rw [if_pos h]
  have:decide ((0:Int)<(t.allowed.length:Int))=false:=decide_eq_false (by rw [h];simp)
  simp only [this,cond_false]
  rfl
 ·rw [if_neg h]
  have hpos:=List.length_pos_iff.2 h
  simp only
  rw [vE (by omega),cond_true,av (by omega),decide_eq_true hf]
  rfl
def YZ (p:au) (o:Option (Ex (List af × List State × Int × List Reached × List (List Bool × Bool) × Int) PR)):Out→Prop
 | .go ls fb=> ∃kn,o=some (.brk ([],[],0,rL ls fb,kn, -1))
 | .large=> ∃f x,o=some (.ret (3,[],[],8,f,x))
 | .found ls fb=> ∃kn,o=some (.ret (2,[],[],0,(ls.length:Int) - 1,⟨rL ls fb,kn⟩))
omit hp ht hm in
noncomputable def Ov (p:au) (t:Task) (most:Int):Nat→Nat→List State→List (Int × af)→Out
 |0,_,ls,fb=> .go ls fb
 |F+1,i,ls,fb=>if i<ls.length then(match Md p t most (at' ls i) i t.allowed.length 0 ls fb with| .go ls' fb'=>Ov p t most F (i+1) ls' fb'| .large=> .large| .found ls' fb'=> .found ls' fb')else .go ls fb
theorem Om {now:State} (i:Nat): ∀(n k:Nat) (ls:List State) (fb:List (Int × af)) (ls':List State) (fb':List (Int × af)),k+n=t.allowed.length→Md p t most now i n k ls fb= .found ls' fb'→t.allowed≠[]
 |0,_,_,_,_,_,_,h=>by unfold Md at h;cases h
 |n+1,k,ls,fb,ls',fb',hk,h=>by intro e;rw [e]at hk;simp at hk
theorem NK: ∀(F i:Nat) (ls:List State) (fb:List (Int × af)) (kn:List (List Bool × Bool)),Rc p most ls fb→i≤ls.length→Kn p ls kn→most<(i:Int)+(F:Int)→
  ∃m,m≤F+2∧YZ p (aC (aX p t most) m ([],[],0,rL ls fb,kn, -1,(i:Int))) (Ov p t most F i ls fb)
 |0,i,ls,fb,kn,h,hi,hk,hF=>by have:=h.most;omega
 |F+1,i,ls,fb,kn,h,hi,hk,hF=>by
  have hll:=h.most
  by_cases hlt:i<ls.length
  ·have hn:VS p (at' ls i):=h.vs _ (at_mem hlt)
   have hs:(at' (rL ls fb) i).s_=at' ls i:=by unfold rL;rw [iy hlt]
   obtain⟨m0,hm0,hres⟩:=Ef hp ht hm hn i t.allowed.length 0 ls fb kn h hlt hk (by omega)
   have hal:=(eH ht).2.2.1.1
   have hY: ∀r,cK (i:Int) (at' ls i).closed (at' ls i).locked (at' ls i).badLink (at' ls i).on_ (at' ls i).badSource (at' ls i).earthed (at' ls i).badBus p t most [] [] 0 (-1) ⟨rL ls fb,kn⟩=some r→
     aX p t most ([],[],0,rL ls fb,kn, -1,(i:Int))=(bif (Nat.beq r.1 0)then some (.next (r.2.1,r.2.2.1,r.2.2.2.1,r.2.2.2.2.2.l,r.2.2.2.2.2.known,r.2.2.2.2.1,((i+1:Nat):Int)))else some (.done (.ret (r.1,r.2.1,r.2.2.1,r.2.2.2.1,r.2.2.2.2.1,r.2.2.2.2.2)))):=by
    intro r hr
    unfold aX
    simp only [Int.toNat_natCast,hs]
    rw [vE (by rw [nW];omega),cond_true,hr,Option.bind_some,av (by rw [nW];omega),av (by rw [nW];omega),wr (by omega)]
    rfl
   have hE: ∀o,aC (bO (i:Int) (at' ls i).closed (at' ls i).locked (at' ls i).badLink (at' ls i).on_ (at' ls i).badSource (at' ls i).earthed (at' ls i).badBus p t most [] [] 0) m0 (rL ls fb,kn, -1,((0:Nat):Int))=some o→
     aC (bO (i:Int) (at' ls i).closed (at' ls i).locked (at' ls i).badLink (at' ls i).on_ (at' ls i).badSource (at' ls i).earthed (at' ls i).badBus p t most [] [] 0) FUEL (rL ls fb,kn, -1,0)=some o:=fun o ho=>dZ ho (by unfold FUEL;omega)
   have hok:=CK hp ht hm hn i t.allowed.length 0 ls fb h hlt
   have hfd:=Om (now:=at' ls i) hp ht hm i t.allowed.length 0 ls fb
   unfold Ov
   rw [if_pos hlt]
   revert hres hok hfd
   cases Md p t most (at' ls i) i t.allowed.length 0 ls fb with
   |go ls' fb'=>
    rintro ⟨kn',hk',ho⟩ hok _
    have hy:=hY (0,[],[],0, -1,⟨rL ls' fb',kn'⟩) (by unfold cK;rw [hE _ ho];rfl)
    obtain⟨m,hm1,hm2⟩:=NK F (i+1) ls' fb' kn' hok.1 (by have:=hok.2;omega) hk' (by omega)
    refine⟨m+1,by omega, ?_⟩
    rw [aG,hy]
    exact hm2
   |large=>
    rintro ⟨f,x,ho⟩ _ _
    have hy:=hY (3,[],[],8,f,x) (by unfold cK;rw [hE _ ho];rfl)
    exact⟨1,by omega,f,x,by rw [aG,hy];rfl⟩
   |found ls' fb'=>
    rintro ⟨kn',hk',ho⟩ hok hfd
    have hne:=hfd ls' fb' (by omega) rfl
    rcases ho with ho|ho
    ·have hy:=hY (2,[],[],0,(ls'.length:Int) - 1,⟨rL ls' fb',kn'⟩) (by unfold cK;rw [hE _ ho];rfl)
     exact⟨1,by omega,kn',by rw [aG,hy];rfl⟩
    ·have hy:=hY (0,[],[],0,(ls'.length:Int) - 1,⟨rL ls' fb',kn'⟩) (by unfold cK;rw [hE _ ho];rfl)
     refine⟨2,by omega,kn', ?_⟩
     have hlt2:=hok.2
     have hpos:=hok.1.pos
     rw [aG,hy]
     simp only [show Nat.beq 0 0=true from rfl,cond_true]
     rw [aG]
     have hs2:(at' (rL ls' fb') (i+1)).s_=at' ls' (i+1):=by unfold rL;rw [iy (by omega)]
     have hm2:=hok.1.most
     unfold aX
     simp only [Int.toNat_natCast,hs2]
     rw [vE (by rw [nW];omega),cond_true,E9 (now:=at' ls' (i+1)) hp ht hm _ (by omega),if_neg hne,Option.bind_some]
     simp only [show Nat.beq 2 0=false from rfl,cond_false]
     rw [av (by rw [nW];omega)]
  ·refine⟨1,by omega, ?_⟩
   unfold Ov
   rw [if_neg hlt]
   refine⟨kn, ?_⟩
   have:decide ((i:Int)<((rL ls fb).length:Int))=false:=decide_eq_false (by rw [nW];omega)
   rw [aG]
   unfold aX
   simp only [this,cond_false]
theorem Ns: ∀(F i:Nat) (ls:List State) (fb:List (Int × af)),Rc p most ls fb→UZ p most 0 (Ov p t most F i ls fb)
 |0,_,ls,fb,h=> ⟨h,Nat.zero_le _⟩
 |F+1,i,ls,fb,h=>by
  unfold Ov
  by_cases hlt:i<ls.length
  ·rw [if_pos hlt]
   have hok:=CK hp ht hm (h.vs _ (at_mem hlt)) i t.allowed.length 0 ls fb h hlt
   revert hok
   cases Md p t most (at' ls i) i t.allowed.length 0 ls fb with
   |go ls' fb'=>exact fun hok=>Ns F (i+1) ls' fb' hok.1
   |large=>exact fun _=>trivial
   |found ls' fb'=>exact fun hok=> ⟨hok.1,by have:=hok.2;omega⟩
  ·rw [if_neg hlt];exact⟨h,Nat.zero_le _⟩
end
theorem FD {p:au} {s:State} (hs:VS p s) {most:Int} (hm:1≤most∧most≤20000) (x:af):Rc p most [s] [(-1,x)]:=
 ⟨fun u hu=>by rw [List.mem_singleton]at hu;rw [hu];exact hs,rfl,by simp,by simp;omega,fun j hj h0=>by simp at hj;omega⟩
theorem ED {p:au} {most:Int} {ls:List State} {fb:List (Int × af)} (h:Rc p most ls fb) (hm:most≤20000) {j:Nat} (hj:j<ls.length) (kn:List (List Bool × Bool)):
  bV (j:Int) ⟨rL ls fb,kn⟩=some (path fb j):=by
 have hll:=h.most;have hlen:=h.len
 have run: ∀(n j:Nat) (out:List af),j<ls.length→j<n→out.length+n≤100000→ ∃m,m≤n+1∧aC (dV ⟨rL ls fb,kn⟩) m ((j:Int),out)=some (.brk (out++(qC fb n (j:Int)).reverse)):=by
  intro n
  induction n with
  |zero=>intro j out _ h1 _;omega
  |succ n ih=>
   intro j out hj h1 ho
   by_cases c:(j:Int)≤0
   ·refine⟨1,by omega, ?_⟩
    rw [aG]
    unfold dV qC
    have:decide ((0:Int)<(j:Int))=false:=decide_eq_false (by omega)
    simp only [this,cond_false,if_pos c,List.reverse_nil,List.append_nil]
   ·have hf:=h.from_ j (by omega) (by omega)
    have hb:dV ⟨rL ls fb,kn⟩ ((j:Int),out)=some (.next ((at' fb j).1,out++[(at' fb j).2])):=by
     unfold dV
     simp only [Int.toNat_natCast]
     have e1:at' (rL ls fb) j=⟨at' ls j,(at' fb j).1,(at' fb j).2⟩:=by unfold rL;rw [iy hj]
     rw [vE (by omega),cond_true,av ⟨by rw [nW];omega,by simp only [List.length_singleton];omega,by simp only [List.length_singleton];omega⟩,av (by rw [nW];omega),e1]
    have e:(at' fb j).1=(((at' fb j).1.toNat:Nat):Int):=by omega
    obtain⟨m,hm1,hm2⟩:=ih (at' fb j).1.toNat (out++[(at' fb j).2]) (by omega) (by omega) (by simp only [List.length_append,List.length_singleton];omega)
    refine⟨m+1,by omega, ?_⟩
    rw [aG,hb]
    simp only
    rw [e,hm2]
    conv=>rhs;rw [qC]
    rw [if_neg c,Int.toNat_natCast,List.reverse_append,←e]
    simp
 obtain⟨m,hm1,hm2⟩:=run (j+1) j [] hj (by omega) (by simp;omega)
 unfold bV
 rw [dZ hm2 (by unfold FUEL;omega)]
 simp only [List.nil_append,Option.bind_some]
 have hpl:=Co fb (j+1) (j:Int)
 rw [MV _ (by rw [List.length_reverse];omega),Option.bind_some,av (by simp),List.reverse_reverse]
 rfl
def pL (fb:List (Int × af)):List (List af):=tab fb.length (path fb)
theorem V3 {p:au} {most:Int} {ls:List State} {fb:List (Int × af)} (h:Rc p most ls fb) {i:Nat} (hi:i<fb.length) (x:af):pL fb++[path fb i++[x]]=pL (fb++[((i:Int),x)]):=by
 apply nZ (by simp [pL,bD])
 intro j hj
 unfold pL at hj ⊢
 rw [List.length_append,List.length_singleton,bD]at hj
 rw [iy (by rw [List.length_append,List.length_singleton];exact hj)]
 by_cases e:j<fb.length
 ·rw [wV (by rw [bD];exact e),iy e,QV h e]
 ·have e2:j=fb.length:=by omega
  have:=zB (tab fb.length (path fb)) (path fb i++[x])
  rw [bD]at this
  rw [e2,this,K9 h hi]
abbrev FR:=List af × List State × Int
def U9 (o:Option (Ex (List State × List (List af)) (bH (List State × List (List af) × Int) (Ex (List State) FR)))):Out→Prop
 | .go ls fb=>o=some (.brk (ls,pL fb))
 | .large=>o=some (.ret (.done (.ret ([],[],8))))
 | .found ls fb=>o=some (.ret (.done (.ret (path fb (ls.length - 1),[],0))))
def Vx (o:Option (Ex (List State) FR)):Out→Prop
 | .go ls fb=>o=some (.brk ls)
 | .large=>o=some (.ret ([],[],8))
 | .found ls fb=>o=some (.ret (path fb (ls.length - 1),[],0))
section
variable {p:au} (hp:VP p) {t:Task} (ht:og p t=true) (hst:j4 t) {most:Int} (hm:1≤most∧most≤20000)
include hp ht hst hm
theorem IQ (i:Nat): ∀(n k:Nat) (ls:List State) (fb:List (Int × af)),Rc p most ls fb→i<ls.length→k+n=t.allowed.length→
  ∃m,m≤n+1∧U9 (aC (gF p t most (i:Int)) m (ls,pL fb,(k:Int))) (Md p t most (at' ls i) i n k ls fb)
 |0,k,ls,fb,h,hi,hkn=>by
  refine⟨1,by omega, ?_⟩
  show _=_
  have:decide ((k:Int)<(t.allowed.length:Int))=false:=decide_eq_false (by omega)
  rw [aG]
  unfold gF
  simp only [this,cond_false]
 |n+1,k,ls,fb,h,hi,hkn=>by
  obtain⟨_,_,⟨al,ax⟩,⟨gl,gx⟩⟩:=eH ht
  have hll:=h.most;have hlen:=h.len
  have hn:VS p (at' ls i):=h.vs _ (at_mem hi)
  have hroom: ∀x∈ls,Dy x:=fun x hx=>VS.room hp (h.vs x hx)
  have hpl:(path fb i).length≤20001:=by have:=Co fb (i+1) (i:Int);unfold path;omega
  have hpi:at' (pL fb) i=path fb i:=by unfold pL;rw [iy (by omega)]
  have hpn:(pL fb).length=fb.length:=bD _ _
  obtain⟨ri,ri1,ri2⟩:=FV (l:=ls) (by omega) hroom (nextR p (at' ls i) t (at' t.allowed k)).1
  have hb:gF p t most (i:Int) (ls,pL fb,(k:Int))=
    (if(nextR p (at' ls i) t (at' t.allowed k)).2≠0 then some (.next (ls,pL fb,((k+1:Nat):Int)))else
     if(nextR p (at' ls i) t (at' t.allowed k)).1∈ls then some (.next (ls,pL fb,((k+1:Nat):Int)))else
     if most<((ls++[(nextR p (at' ls i) t (at' t.allowed k)).1]).length:Int)then some (.done (.ret (.done (.ret ([],[],8)))))else
     if Am (nextR p (at' ls i) t (at' t.allowed k)).1 t.goal=true then some (.done (.ret (.done (.ret (path fb i++[at' t.allowed k],[],0)))))else
     some (.next (ls++[(nextR p (at' ls i) t (at' t.allowed k)).1],pL fb++[path fb i++[at' t.allowed k]],((k+1:Nat):Int)))):=by
   unfold gF
   simp only [Int.toNat_natCast]
   rw [vE (by omega),cond_true,BS hp hn,Option.bind_some,av ⟨by omega,by omega⟩,wr (by omega)]
   by_cases h0:Ig p (at' ls i) (at' t.allowed k)=0
   ·have e:Gz p (at' ls i) (at' t.allowed k)=(oz (at' ls i) (at' t.allowed k),0):=by unfold Gz;rw [if_pos h0]
    have en:nextR p (at' ls i) t (at' t.allowed k)=(oz (at' ls i) (at' t.allowed k),Aw p (oz (at' ls i) (at' t.allowed k)) t):=by unfold nextR;rw [if_pos h0]
    have ha:=VS.Zf hp hn (zh h0).1
    rw [en]at ri1 ri2
    rw [e,en]
    simp only at ri1 ri2 ⊢
    simp only [decide_true,Bool.not_true,gB,Bool.and_true,show(false==false)=true from rfl,cond_true,cond_false]
    rw [jO (VP.small hp) _ hst,JD hp ha ht,Option.bind_some]
    by_cases h2:Aw p (oz (at' ls i) (at' t.allowed k)) t=0
    ·rw [if_neg (by simp [h2]),h2]
     simp only [decide_true,Bool.not_true,gB,Bool.and_true,show(false==false)=true from rfl,cond_true,cond_false]
     rw [ri1,Option.bind_some]
     by_cases h3:oz (at' ls i) (at' t.allowed k)∈ls
     ·rw [if_pos h3,decide_eq_true (ri2.2 h3),cond_true];rfl
     ·rw [if_neg h3,decide_eq_false (fun q=>h3 (ri2.1 q)),cond_false]
      have hcs:fB (at' (pL fb) i)=some (path fb i):=by
       rw [hpi];unfold fB;rw [av (by omega)]
      rw [av ⟨by simp only [List.length_singleton];omega,by simp only [List.length_singleton];omega⟩,hcs,Option.bind_some]
      rw [av ⟨by rw [hpn];omega,by omega,by simp only [List.length_singleton];omega,by simp only [List.length_singleton];omega⟩]
      rw [av ⟨by simp only [List.length_singleton,hpn];omega,by simp only [List.length_singleton,hpn];omega⟩]
      by_cases h4:most<((ls++[oz (at' ls i) (at' t.allowed k)]).length:Int)
      ·rw [if_pos h4,decide_eq_true h4,cond_true]
      ·rw [if_neg h4,decide_eq_false h4,cond_false,CR ha (by omega) gx,Option.bind_some]
       cases Am (oz (at' ls i) (at' t.allowed k)) t.goal with
       |true=>rw [if_pos rfl,cond_true]
       |false=>rw [if_neg (by simp),cond_false];rfl
    ·rw [if_pos (by simpa using h2)]
     simp only [decide_eq_false h2,Bool.not_false,gB,Bool.and_true,show(true==false)=false from rfl,cond_true,cond_false,Option.bind_some]
     rfl
   ·have e:Gz p (at' ls i) (at' t.allowed k)=(fZ,Ig p (at' ls i) (at' t.allowed k)):=by unfold Gz;rw [if_neg h0]
    have en:nextR p (at' ls i) t (at' t.allowed k)=(fZ,Ig p (at' ls i) (at' t.allowed k)):=by unfold nextR;rw [if_neg h0]
    rw [e,en]
    simp only
    rw [if_pos (by simpa using h0)]
    simp only [decide_eq_false h0,Bool.not_false,gB,Bool.and_true,show(true==false)=false from rfl,cond_true,cond_false,Option.bind_some]
    rfl
  unfold Md
  split
  ·rename_i h1
   rw [if_pos h1]at hb
   obtain⟨m,hm1,hm2⟩:=IQ i n (k+1) ls fb h hi (by omega)
   refine⟨m+1,by omega, ?_⟩
   rw [aG,hb];exact hm2
  ·rename_i h1
   rw [if_neg h1]at hb
   have hv:=wu hp hn (Decidable.not_not.1 h1)
   have hvs:VS p (nextR p (at' ls i) t (at' t.allowed k)).1:=by rw [hv.2.1];exact hv.2.2.1
   split
   ·rename_i h2
    rw [if_pos h2]at hb
    obtain⟨m,hm1,hm2⟩:=IQ i n (k+1) ls fb h hi (by omega)
    refine⟨m+1,by omega, ?_⟩
    rw [aG,hb];exact hm2
   ·rename_i h2
    rw [if_neg h2]at hb
    split
    ·rename_i h3
     rw [if_pos h3]at hb
     exact⟨1,by omega,by show _=_;rw [aG,hb]⟩
    ·rename_i h3
     rw [if_neg h3]at hb
     have hr:=h.add hvs hi (x:=at' t.allowed k) (by omega)
     split
     ·rename_i h4
      rw [if_pos h4]at hb
      refine⟨1,by omega, ?_⟩
      show _=_
      rw [aG,hb]
      have e1:(ls++[(nextR p (at' ls i) t (at' t.allowed k)).1]).length - 1=fb.length:=by rw [List.length_append,List.length_singleton];omega
      rw [e1,K9 h (by omega)]
     ·rename_i h4
      rw [if_neg h4]at hb
      have hat:at' (ls++[(nextR p (at' ls i) t (at' t.allowed k)).1]) i=at' ls i:=wV hi
      obtain⟨m,hm1,hm2⟩:=IQ i n (k+1) _ _ hr (by rw [List.length_append,List.length_singleton];omega) (by omega)
      rw [hat]at hm2
      refine⟨m+1,by omega, ?_⟩
      rw [aG,hb]
      simp only
      rw [V3 h (by omega)]
      exact hm2
theorem Qr: ∀(F i:Nat) (ls:List State) (fb:List (Int × af)),Rc p most ls fb→i≤ls.length→most<(i:Int)+(F:Int)→
  ∃m,m≤F+1∧Vx (aC (fD p t most) m (ls,pL fb,(i:Int))) (Ov p t most F i ls fb)
 |0,i,ls,fb,h,hi,hF=>by have:=h.most;omega
 |F+1,i,ls,fb,h,hi,hF=>by
  have hll:=h.most
  by_cases hlt:i<ls.length
  ·obtain⟨m0,hm0,hres⟩:=IQ hp ht hst hm i t.allowed.length 0 ls fb h hlt (by omega)
   have hal:=(eH ht).2.2.1.1
   have hok:=CK hp ht hm (h.vs _ (at_mem hlt)) i t.allowed.length 0 ls fb h hlt
   have hE: ∀o,aC (gF p t most (i:Int)) m0 (ls,pL fb,((0:Nat):Int))=some o→aC (gF p t most (i:Int)) FUEL (ls,pL fb,0)=some o:=fun o ho=>dZ ho (by unfold FUEL;omega)
   unfold Ov
   rw [if_pos hlt]
   revert hres hok
   cases Md p t most (at' ls i) i t.allowed.length 0 ls fb with
   |go ls' fb'=>
    intro ho hok
    obtain⟨m,hm1,hm2⟩:=Qr F (i+1) ls' fb' hok.1 (by have:=hok.2;omega) (by omega)
    refine⟨m+1,by omega, ?_⟩
    rw [aG]
    unfold fD
    simp only
    rw [vE (by omega),cond_true,hE _ ho,Option.bind_some,wr (by omega)]
    exact hm2
   |large=>
    intro ho _
    refine⟨1,by omega, ?_⟩
    show _=_
    rw [aG]
    unfold fD
    simp only
    rw [vE (by omega),cond_true,hE _ ho,Option.bind_some]
   |found ls' fb'=>
    intro ho _
    refine⟨1,by omega, ?_⟩
    show _=_
    rw [aG]
    unfold fD
    simp only
    rw [vE (by omega),cond_true,hE _ ho,Option.bind_some]
  ·refine⟨1,by omega, ?_⟩
   unfold Ov
   rw [if_neg hlt]
   show _=_
   have:decide ((i:Int)<(ls.length:Int))=false:=decide_eq_false (by omega)
   rw [aG]
   unfold fD
   simp only [this,cond_false]
end
noncomputable def Dt (p:au) (s:State) (t:Task) (most:Int):FR:=
 if qf p s t≠0 then([],[],qf p s t)else if most<1∨20000<most then([],[],1)else if Am s t.goal=true then([],[],0)else
  match Ov p t most 20002 0 [s] [(-1,⟨0,0⟩)]with
  | .go ls _=>([],ls,4)
  | .large=>([],[],8)
  | .found ls fb=>(path fb (ls.length - 1),[],0)
theorem AL {p:au} (hp:Small p) (s:State) {t:Task} (hst:j4 t) (most:Int):mr p s t most=some (Dt p s t most):=by
 unfold mr Dt
 rw [jO hp s hst,Option.bind_some]
 by_cases h:qf p s t=0
 ·obtain⟨h1,h2,h3,h4⟩:=jH h
  rw [if_neg (by simp [h]),h]
  simp only [decide_true,Bool.not_true,cond_false]
  by_cases hmm:most<1∨20000<most
  ·rw [if_pos hmm,eF]
   have:(decide (most<1)||decide (20000<most))=true:=by
    rw [Bool.or_eq_true,decide_eq_true_iff,decide_eq_true_iff];exact hmm
   rw [this];rfl
  ·rw [if_neg hmm,eF]
   have:(decide (most<1)||decide (20000<most))=false:=by
    rw [Bool.or_eq_false_iff,decide_eq_false_iff_not,decide_eq_false_iff_not];exact⟨fun q=>hmm (.inl q),fun q=>hmm (.inr q)⟩
   rw [this,cond_false]
   obtain⟨_,_,_,⟨gl,gx⟩⟩:=eH h3
   rw [CR h2 (by omega) gx,Option.bind_some]
   cases Am s t.goal with
   |true=>rw [if_pos rfl];rfl
   |false=>
    rw [if_neg (by simp),cond_false]
    have hm:1≤most∧most≤20000:=by omega
    obtain⟨m,hm1,hm2⟩:=Qr h1 h3 hst hm 20002 0 [s] [(-1,⟨0,0⟩)] (FD h2 hm _) (by simp) (by omega)
    have e:pL [((-1:Int),(⟨0,0⟩:af))]=[([]:List af)]:=by
     simp [pL,tab,path,qC]
    rw [e]at hm2
    revert hm2
    cases Ov p t most 20002 0 [s] [(-1,⟨0,0⟩)]with
    |go ls fb=>intro ho;rw [show(0:Int)=((0:Nat):Int)from rfl,dZ ho (by unfold FUEL;omega)];rfl
    |large=>intro ho;rw [show aC (fD p t most) FUEL ([s],[[]],0)=_ from dZ ho (by unfold FUEL;omega)];rfl
    |found ls fb=>intro ho;rw [show aC (fD p t most) FUEL ([s],[[]],0)=_ from dZ ho (by unfold FUEL;omega)];rfl
 ·rw [if_pos h];simp [h]
theorem Od (ls:List State) (fb:List (Int × af)) (kn:List (List Bool × Bool)) (hl:ls.length≤100000):bX [] ⟨rL ls fb,kn⟩=some ls:=by
 have key:aC (bY ⟨rL ls fb,kn⟩) FUEL (ls.take 0,((0:Nat):Int))=some (.brk (ls.take ls.length)):=by
  refine eB (body:=bY ⟨rL ls fb,kn⟩) (fun i=>(ls.take i,(i:Int))) ls.length _ (fuel_lt (by omega)) (fun i hi=> ?_) ?_
  ·have e1:(at' (rL ls fb) i).s_=at' ls i:=by unfold rL;rw [iy hi]
   unfold bY oQ
   simp only [Int.toNat_natCast,e1]
   rw [vE (by rw [nW];omega),cond_true,av ⟨by simp only [List.length_take,List.length_singleton];omega,by simp only [List.length_take,List.length_singleton];omega⟩,Option.bind_some,av (by rw [nW];omega),wr (by omega),oP hi]
   rfl
  ·unfold bY
   have:decide ((ls.length:Int)<((rL ls fb).length:Int))=false:=decide_eq_false (by rw [nW];omega)
   simp only [this,cond_false]
 rw [List.take_length]at key
 unfold bX
 rw [show aC (bY ⟨rL ls fb,kn⟩) FUEL ([],0)=_ from key];rfl
theorem JG {p:au} (hp:Small p) (s:State) {t:Task} (hst:j4 t) (most:Int):eY p s t most=some (Dt p s t most):=by
 unfold eY Dt
 rw [sF hp s hst,Option.bind_some]
 by_cases h:qf p s t=0
 ·obtain⟨h1,h2,h3,h4⟩:=jH h
  rw [if_neg (by simp [h]),h]
  simp only [decide_true,Bool.not_true,cond_false]
  by_cases hmm:most<1∨20000<most
  ·rw [if_pos hmm,eF]
   have:(decide (most<1)||decide (20000<most))=true:=by
    rw [Bool.or_eq_true,decide_eq_true_iff,decide_eq_true_iff];exact hmm
   rw [this];rfl
  ·rw [if_neg hmm,eF]
   have:(decide (most<1)||decide (20000<most))=false:=by
    rw [Bool.or_eq_false_iff,decide_eq_false_iff_not,decide_eq_false_iff_not];exact⟨fun q=>hmm (.inl q),fun q=>hmm (.inr q)⟩
   rw [this,cond_false]
   obtain⟨_,_,⟨al,_⟩,⟨gl,gx⟩⟩:=eH h3
   have hm:1≤most∧most≤20000:=by omega
   have hadd:=add_eq (ls:=[]) (x:=⟨[],[]⟩) Kn.nil h2 (-1) ⟨0,0⟩ (by simp)
   rw [HV s (VS.small h1 h2),Option.bind_some,hadd]
   simp only [List.not_mem_nil,decide_false,cond_false,Option.bind_some]
   rw [Jf h2 (by omega) gx,Option.bind_some]
   have e0:([]:List Reached)++[(⟨s, -1,⟨0,0⟩⟩:Reached)]=rL [s] [(-1,⟨0,0⟩)]:=by simp [rL,tab,at']
   have hkn:Kn p [s] (fA (rV 280) (pQ s) true []):=by have:=(Kn.nil (p:=p)).add h1 h2;simpa using this
   rw [e0]
   generalize hk0:fA (rV 280) (pQ s) true ([]:List (List Bool × Bool))=k0 at hkn
   have hrc:=FD h2 hm (⟨0,0⟩:af)
   cases hmet:Am s t.goal with
   |true=>
    rw [if_pos rfl]
    simp only [cond_true,bZ,Option.bind_some]
    have hz:bR p t most [] [] 0 0 ⟨rL [s] [(-1,⟨0,0⟩)],k0⟩=some (if t.allowed=[]then(0,[],[],0,0,⟨rL [s] [(-1,⟨0,0⟩)],k0⟩)else(2,[],[],0,0,⟨rL [s] [(-1,⟨0,0⟩)],k0⟩)):=by
     unfold bR
     obtain⟨k,hk⟩: ∃k,FUEL=k+1+1:=⟨1180591620717411303422,rfl⟩
     rw [hk,aG]
     have hs0:(at' (rL [s] [(-1,⟨0,0⟩)]) 0).s_=s:=rfl
     have b0:aX p t most ([],[],0,rL [s] [(-1,⟨0,0⟩)],k0,0,0)=some (if t.allowed=[]then .next ([],[],0,rL [s] [(-1,⟨0,0⟩)],k0,0,1)else .done (.ret (2,[],[],0,0,⟨rL [s] [(-1,⟨0,0⟩)],k0⟩))):=by
      unfold aX
      simp only
      have hll:((rL [s] [((-1:Int),(⟨0,0⟩:af))]).length:Int)=1:=rfl
      rw [hll,show decide ((0:Int)<1)=true from rfl,cond_true,show((0:Int)).toNat=0 from rfl,hs0,E9 (now:=s) h1 h3 hm 0 (Int.le_refl 0)]
      by_cases ha:t.allowed=[]
      ·rw [if_pos ha,if_pos ha];rfl
      ·rw [if_neg ha,if_neg ha];rfl
     rw [b0]
     by_cases ha:t.allowed=[]
     ·rw [if_pos ha,if_pos ha]
      simp only
      rw [aG]
      rfl
     ·rw [if_neg ha,if_neg ha];rfl
    rw [hz,Option.bind_some]
    have hpr:=ED hrc hm.2 (j:=0) (by simp) k0
    have hpth:path [((-1:Int),(⟨0,0⟩:af))] 0=[]:=by simp [path,qC]
    rw [hpth]at hpr
    have hpr':bV 0 ⟨rL [s] [(-1,⟨0,0⟩)],k0⟩=some []:=hpr
    by_cases ha:t.allowed=[]
    ·rw [if_pos ha]
     simp only [show Nat.beq 0 0=true from rfl,cond_true,show decide ((0:Int)≤0)=true from rfl]
     rw [hpr'];rfl
    ·rw [if_neg ha]
     simp only [show Nat.beq 2 0=false from rfl,show Nat.beq 2 2=true from rfl,cond_true,cond_false,show decide ((0:Int)≤0)=true from rfl]
     rw [hpr'];rfl
   |false=>
    rw [if_neg (by simp)]
    simp only [cond_false,bZ,Option.bind_some]
    obtain⟨m,hm1,hm2⟩:=NK h1 h3 hm 20002 0 [s] [(-1,⟨0,0⟩)] k0 hrc (by simp) hkn (by omega)
    have hok:=Ns h1 h3 hm 20002 0 [s] [(-1,⟨0,0⟩)] hrc
    have hE: ∀o,aC (aX p t most) m ([],[],0,rL [s] [(-1,⟨0,0⟩)],k0, -1,((0:Nat):Int))=some o→aC (aX p t most) FUEL ([],[],0,rL [s] [(-1,⟨0,0⟩)],k0, -1,0)=some o:=fun o ho=>dZ ho (by unfold FUEL;omega)
    revert hm2 hok
    cases Ov p t most 20002 0 [s] [(-1,⟨0,0⟩)]with
    |go ls fb=>
     rintro ⟨kn,ho⟩ hok
     have hll:=hok.1.most
     unfold bR
     rw [hE _ ho]
     simp only [Option.bind_some,show Nat.beq 0 0=true from rfl,cond_true,show decide ((0:Int)≤ -1)=false from rfl,cond_false]
     rw [Od ls fb kn (by omega)];rfl
    |large=>
     rintro ⟨f,x,ho⟩ _
     unfold bR
     rw [hE _ ho]
     simp only [Option.bind_some,show Nat.beq 3 0=false from rfl,show Nat.beq 3 2=false from rfl,cond_false]
     rfl
    |found ls fb=>
     rintro ⟨kn,ho⟩ hok
     have hpos:=hok.1.pos
     unfold bR
     rw [hE _ ho]
     simp only [Option.bind_some,show Nat.beq 2 0=false from rfl,show Nat.beq 2 2=true from rfl,cond_false,cond_true]
     rw [decide_eq_true (show(0:Int)≤(ls.length:Int) - 1 by omega),cond_true]
     have hpr:=ED hok.1 hm.2 (j:=ls.length - 1) (by omega) kn
     rw [show((ls.length - 1:Nat):Int)=(ls.length:Int) - 1 by omega]at hpr
     rw [hpr];rfl
 ·rw [if_pos h];simp [h]
noncomputable def yj (p:au) (t:Task) (y:State):Bool:= !decide (qf p y t=0)||Am y t.goal
noncomputable def wN (p:au) (t:Task) (l:List State) (y:State) (x:af):Bool:=decide ((nextR p y t x).2=0) && !decide ((nextR p y t x).1∈l)
noncomputable def Eh (p:au) (s:State) (t:Task) (l:List State):Int:=
 if qf p s t≠0 then qf p s t else if 20000<l.length then 2 else bif l.any (yj p t)then 7 else bif !decide (s∈l)then 7 else bif l.any (fun y=>t.allowed.any (wN p t l y))then 7 else 0
theorem FZ {p:au} {t:Task} {y:State} (h:yj p t y=false):qf p y t=0∧Am y t.goal=false:=by
 unfold yj at h
 rw [Bool.or_eq_false_iff,Bool.not_eq_false',decide_eq_true_iff]at h
 exact h
section
variable {p:au} (hp:VP p) {t:Task} (ht:og p t=true) (hst:j4 t) {l:List State} (hl:l.length≤20000)
include hp ht hst hl
theorem Us: ∀(n i:Nat) (x:Search),i+n=l.length→x.l.length≤i→Kn p (l.take i) x.known→
  ∃m,m≤n+1∧(((l.drop i).any (yj p t)=true∧aC (cZ p t l) m (x.l,x.known,(i:Int))=some (.ret 7))∨
   ((l.drop i).any (yj p t)=false∧ ∃x':Search,Kn p l x'.known∧aC (cZ p t l) m (x.l,x.known,(i:Int))=some (.brk (x'.l,x'.known))))
 |0,i,x,hi,hx,hk=>by
  refine⟨1,by omega, .inr ⟨?_,x, ?_, ?_⟩⟩
  ·rw [List.drop_eq_nil_of_le (by omega)];rfl
  ·rw [List.take_of_length_le (by omega)]at hk;exact hk
  ·have:decide ((i:Int)<(l.length:Int))=false:=decide_eq_false (by omega)
   rw [aG]
   unfold cZ
   simp only [this,cond_false]
 |n+1,i,x,hi,hx,hk=>by
  have hlt:i<l.length:=by omega
  obtain⟨_,_,_,⟨gl,gx⟩⟩:=eH ht
  have hdrop:(l.drop i).any (yj p t)=(yj p t (at' l i)||(l.drop (i+1)).any (yj p t)):=by
   rw [List.drop_eq_getElem_cons hlt,List.any_cons,fH hlt]
  have htk:l.take (i+1)=l.take i++[at' l i]:=oP hlt
  by_cases h0:qf p (at' l i) t=0
  ·obtain⟨_,hv,_,_⟩:=jH h0
   cases hm:Am (at' l i) t.goal with
   |true=>
    refine⟨1,by omega, .inl ⟨?_, ?_⟩⟩
    ·rw [hdrop];unfold yj;rw [hm];simp
    ·rw [aG]
     unfold cZ
     simp only [Int.toNat_natCast]
     rw [vE (by omega),cond_true,av (by omega),sF (VP.small hp) _ hst,h0,Option.bind_some]
     simp only [decide_true,Bool.not_true,gB,Bool.and_true,show(false==false)=true from rfl,cond_true,cond_false]
     rw [Jf hv (by omega) gx,hm]
     rfl
   |false=>
    have hb:yj p t (at' l i)=false:=by unfold yj;rw [hm,h0];simp
    have hadd:=add_eq (x:=x) hk hv (-1) ⟨0,0⟩ (by omega)
    obtain⟨x2,hx2,hx2l,hk2⟩: ∃x2:Search,dP (at' l i) (-1) ⟨0,0⟩ x=some (!decide (at' l i∈l.take i),x2)∧x2.l.length≤i+1∧Kn p (l.take (i+1)) x2.known:=by
     by_cases hin:at' l i∈l.take i
     ·refine⟨x, ?_,by omega, ?_⟩
      ·rw [hadd,decide_eq_true hin];rfl
      ·intro u hu
       rw [hk u hu,htk,List.mem_append,List.mem_singleton]
       exact⟨fun q=> .inl q,fun q=>q.elim id fun e=>e ▸ hin⟩
     ·refine⟨⟨x.l++[⟨at' l i, -1,⟨0,0⟩⟩],fA (rV 280) (pQ (at' l i)) true x.known⟩, ?_, ?_, ?_⟩
      ·rw [hadd,decide_eq_false hin];rfl
      ·simp;omega
      ·rw [htk];exact hk.add hp hv
    obtain⟨m,hm1,hm2⟩:=Us n (i+1) x2 (by omega) hx2l hk2
    have hstep:cZ p t l (x.l,x.known,(i:Int))=some (.next (x2.l,x2.known,((i+1:Nat):Int))):=by
     unfold cZ
     simp only [Int.toNat_natCast]
     rw [vE (by omega),cond_true,av (by omega),sF (VP.small hp) _ hst,h0,Option.bind_some]
     simp only [decide_true,Bool.not_true,gB,Bool.and_true,show(false==false)=true from rfl,cond_true,cond_false]
     rw [Jf hv (by omega) gx,hm,Option.bind_some,cond_false,show(⟨x.l,x.known⟩:Search)=x from rfl,hx2,Option.bind_some,wr (by omega)]
     rfl
    refine⟨m+1,by omega, ?_⟩
    rw [aG,hstep,hdrop,hb,Bool.false_or]
    exact hm2
  ·refine⟨1,by omega, .inl ⟨?_, ?_⟩⟩
   ·rw [hdrop];unfold yj;rw [decide_eq_false h0];simp
   ·rw [aG]
    unfold cZ
    simp only [Int.toNat_natCast]
    rw [vE (by omega),cond_true,av (by omega),sF (VP.small hp) _ hst,Option.bind_some]
    simp only [decide_eq_false h0,Bool.not_false,gB,Bool.and_true,show(true==false)=false from rfl,cond_true,cond_false,Option.bind_some]
theorem XA {kn:List (List Bool × Bool)} (hk:Kn p l kn) (hv: ∀y∈l,VS p y):aC (lD p t l kn) FUEL 0=some (bif l.any (fun y=>t.allowed.any (wN p t l y))then .ret 7 else .brk ()):=by
 obtain⟨_,_,⟨al,ax⟩,_⟩:=eH ht
 rw [←jM l fun y=>t.allowed.any (wN p t l y)]
 refine di l.length (fun i=>t.allowed.any (wN p t l (at' l i))) 7 (by omega) (fun i hi=> ?_) (by unfold lD;simp)
 have hvi:=hv _ (at_mem hi)
 have e2:aC (lF p t l kn (i:Int)) FUEL 0=some (bif t.allowed.any (wN p t l (at' l i))then .ret (.done (.ret 7))else .brk ()):=by
  rw [←jM t.allowed (wN p t l (at' l i))]
  refine di t.allowed.length (fun k=>wN p t l (at' l i) (at' t.allowed k)) (bH.done (Ex.ret (7:Int)):bH Int (Ex Unit Int)) (by omega) (fun k hk'=> ?_) (by unfold lF;simp)
  unfold lF wN
  simp only [Int.toNat_natCast]
  rw [vE (by omega),cond_true,av (by omega),JB hp hvi ht,Option.bind_some,wr (by omega)]
  by_cases h0:(nextR p (at' l i) t (at' t.allowed k)).2=0
  ·have hn:=wu hp hvi h0
   have hvn:VS p (nextR p (at' l i) t (at' t.allowed k)).1:=by rw [hn.2.1];exact hn.2.2.1
   rw [h0]
   simp only [decide_true,gB,Bool.and_true,beq_self_eq_true,cond_true,Bool.true_and]
   rw [Fg,Option.bind_some,hk.has hvn]
   exact eZ _ _ _
  ·simp only [decide_eq_false h0,gB,Bool.and_true,show(false==true)=false from rfl,cond_false,Option.bind_some,Bool.false_and]
 unfold lD
 rw [vE (by omega),cond_true,av (by omega),e2,wr (by omega)]
 cases t.allowed.any (wN p t l (at' l i))<;>rfl
theorem VU (hv: ∀y∈l,VS p y):aC (lI p t l) FUEL 0=some (bif l.any (fun y=>t.allowed.any (wN p t l y))then .ret 7 else .brk ()):=by
 obtain⟨_,_,⟨al,ax⟩,_⟩:=eH ht
 have hroom: ∀x∈l,Dy x:=fun x hx=>VS.room hp (hv x hx)
 rw [←jM l fun y=>t.allowed.any (wN p t l y)]
 refine di l.length (fun i=>t.allowed.any (wN p t l (at' l i))) 7 (by omega) (fun i hi=> ?_) (by unfold lI;simp)
 have hvi:=hv _ (at_mem hi)
 have e2:aC (lg p t l (i:Int)) FUEL 0=some (bif t.allowed.any (wN p t l (at' l i))then .ret (.done (.ret 7))else .brk ()):=by
  rw [←jM t.allowed (wN p t l (at' l i))]
  refine di t.allowed.length (fun k=>wN p t l (at' l i) (at' t.allowed k)) (bH.done (Ex.ret (7:Int)):bH Int (Ex Unit Int)) (by omega) (fun k hk'=> ?_) (by unfold lg;simp)
  unfold lg wN
  simp only [Int.toNat_natCast]
  rw [vE (by omega),cond_true,BS hp hvi,Option.bind_some,av ⟨by omega,by omega⟩,wr (by omega)]
  by_cases h0:Ig p (at' l i) (at' t.allowed k)=0
  ·have e:Gz p (at' l i) (at' t.allowed k)=(oz (at' l i) (at' t.allowed k),0):=by unfold Gz;rw [if_pos h0]
   have en:nextR p (at' l i) t (at' t.allowed k)=(oz (at' l i) (at' t.allowed k),Aw p (oz (at' l i) (at' t.allowed k)) t):=by unfold nextR;rw [if_pos h0]
   have ha:=VS.Zf hp hvi (zh h0).1
   rw [e,en]
   simp only [decide_true,gB,Bool.and_true,beq_self_eq_true,cond_true]
   rw [jO (VP.small hp) _ hst,JD hp ha ht,Option.bind_some]
   obtain⟨ri,ri1,ri2⟩:=FV (l:=l) (by omega) hroom (oz (at' l i) (at' t.allowed k))
   by_cases h2:Aw p (oz (at' l i) (at' t.allowed k)) t=0
   ·simp only [h2,decide_true,cond_true,beq_self_eq_true,Bool.true_and]
    rw [ri1,Option.bind_some]
    have:decide (ri<0)= !decide (oz (at' l i) (at' t.allowed k)∈l):=by
     rw [Bool.eq_iff_iff,decide_eq_true_iff,Bool.not_eq_true',decide_eq_false_iff_not,←ri2];omega
    rw [this]
    exact eZ _ _ _
   ·simp only [decide_eq_false h2,cond_false,show(false==true)=false from rfl,Option.bind_some,Bool.false_and]
  ·have e:Gz p (at' l i) (at' t.allowed k)=(fZ,Ig p (at' l i) (at' t.allowed k)):=by unfold Gz;rw [if_neg h0]
   have en:nextR p (at' l i) t (at' t.allowed k)=(fZ,Ig p (at' l i) (at' t.allowed k)):=by unfold nextR;rw [if_neg h0]
   rw [e,en]
   simp only [decide_eq_false h0,gB,Bool.and_true,show(false==true)=false from rfl,cond_false,Option.bind_some,Bool.false_and]
 unfold lI
 rw [vE (by omega),cond_true,e2,wr (by omega)]
 cases t.allowed.any (wN p t l (at' l i))<;>rfl
theorem Wt:aC (kZ p t l) FUEL 0=some (bif l.any (yj p t)then .ret 7 else .brk ()):=by
 obtain⟨_,_,_,⟨gl,gx⟩⟩:=eH ht
 rw [←jM l (yj p t)]
 refine di l.length (fun i=>yj p t (at' l i)) 7 (by omega) (fun i hi=> ?_) (by unfold kZ;simp)
 unfold kZ
 simp only [Int.toNat_natCast]
 rw [vE (by omega),cond_true,jO (VP.small hp) _ hst,Option.bind_some,wr (by omega)]
 unfold yj
 by_cases h0:qf p (at' l i) t=0
 ·obtain⟨_,hv,_,_⟩:=jH h0
  simp only [h0,decide_true,Bool.not_true,gB,Bool.and_true,show(false==false)=true from rfl,cond_true,cond_false,Bool.false_or]
  rw [CR hv (by omega) gx,Option.bind_some,av ⟨by omega,fun _=>by omega⟩]
  exact eZ _ _ _
 ·simp only [decide_eq_false h0,Bool.not_false,gB,Bool.and_true,show(true==false)=false from rfl,cond_false,cond_true,Option.bind_some,Bool.true_or]
  rw [av ⟨by omega,fun _=>by omega⟩]
end
theorem Ie {p:au} (hp:Small p) (s:State) {t:Task} (hst:j4 t) (l:List State):gX p s t l=some (Eh p s t l):=by
 unfold gX Eh
 rw [sF hp s hst,Option.bind_some]
 by_cases h:qf p s t=0
 ·obtain⟨h1,h2,h3,h4⟩:=jH h
  rw [if_neg (by simp [h]),h]
  simp only [decide_true,Bool.not_true,cond_false]
  by_cases hl:20000<l.length
  ·rw [if_pos hl,decide_eq_true (show(20000:Int)<(l.length:Int) by omega),cond_true]
  ·rw [if_neg hl,decide_eq_false (show ¬ (20000:Int)<(l.length:Int) by omega),cond_false]
   obtain⟨m,hm1,hm2⟩:=Us h1 h3 hst (l:=l) (by omega) l.length 0 ⟨[],[]⟩ (by omega) (by simp) (by rw [List.take_zero];exact Kn.nil)
   rw [List.drop_zero]at hm2
   rcases hm2 with⟨ha,hr⟩|⟨ha,x',hk,hr⟩
   ·rw [ha,show aC (cZ p t l) FUEL ([],[],0)=_ from dZ hr (by unfold FUEL;omega)];rfl
   ·rw [ha,show aC (cZ p t l) FUEL ([],[],0)=_ from dZ hr (by unfold FUEL;omega)]
    simp only [Option.bind_some,cond_false]
    rw [List.any_eq_false]at ha
    have hv: ∀y∈l,VS p y:=fun y hy=>(jH (FZ (by simpa using ha y hy)).1).2.1
    rw [Fg,Option.bind_some,hk.has h2]
    cases decide (s∈l)with
    |false=>rfl
    |true=>
     simp only [Bool.not_true,cond_false]
     rw [XA h1 h3 hst (by omega) hk hv]
     cases l.any (fun y=>t.allowed.any (wN p t l y))<;>rfl
 ·rw [if_pos h];simp [h]
theorem Cb {p:au} (hp:Small p) (s:State) {t:Task} (hst:j4 t) (l:List State):lV p s t l=some (Eh p s t l):=by
 unfold lV Eh
 rw [jO hp s hst,Option.bind_some]
 by_cases h:qf p s t=0
 ·obtain⟨h1,h2,h3,h4⟩:=jH h
  rw [if_neg (by simp [h]),h]
  simp only [decide_true,Bool.not_true,cond_false]
  by_cases hl:20000<l.length
  ·rw [if_pos hl,decide_eq_true (show(20000:Int)<(l.length:Int) by omega),cond_true]
  ·rw [if_neg hl,decide_eq_false (show ¬ (20000:Int)<(l.length:Int) by omega),cond_false,Wt h1 h3 hst (by omega)]
   cases ha:l.any (yj p t)with
   |true=>rfl
   |false=>
    simp only [Option.bind_some,cond_false]
    rw [List.any_eq_false]at ha
    have hv: ∀y∈l,VS p y:=fun y hy=>(jH (FZ (by simpa using ha y hy)).1).2.1
    obtain⟨ri,ri1,ri2⟩:=FV (l:=l) (by omega) (fun x hx=>VS.room h1 (hv x hx)) s
    rw [ri1,Option.bind_some]
    have:decide (ri<0)= !decide (s∈l):=by
     rw [Bool.eq_iff_iff,decide_eq_true_iff,Bool.not_eq_true',decide_eq_false_iff_not,←ri2];omega
    rw [this]
    cases decide (s∈l)with
    |false=>rfl
    |true=>
     simp only [Bool.not_true,cond_false]
     rw [VU h1 h3 hst (by omega) hv]
     cases l.any (fun y=>t.allowed.any (wN p t l y))<;>rfl
 ·rw [if_pos h];simp [h]
def Ea:au:=⟨3,[⟨0,1,500,0,20⟩],[⟨0,1,3,400,10,[]⟩,⟨1,2,2,400,10,[]⟩],[⟨⟨2, -1⟩,100,1⟩]⟩
def AP:State:=⟨[true,true],List.replicate 2 false,List.replicate 2 false,[true],List.replicate 1 false,List.replicate 3 false,List.replicate 3 false⟩
def exT:Task:=⟨[],[],[⟨1,0⟩,⟨2,0⟩,⟨1,1⟩,⟨2,1⟩],[⟨1,1⟩]⟩
def exU:Task:=⟨[0],[],[⟨1,0⟩,⟨2,0⟩,⟨1,1⟩,⟨2,1⟩],[⟨1,1⟩]⟩
theorem fw:Small Ea:=⟨by decide,by decide,by decide,fun x hx=>by
 simp only [Ea,List.mem_cons,List.not_mem_nil,or_false]at hx
 rcases hx with rfl|rfl<;>decide⟩
theorem GZ:j4 exT:=⟨by decide,by decide,by decide,by decide⟩
theorem zo:j4 exU:=⟨by decide,by decide,by decide,by decide⟩
theorem XV:qW=some (Ea,AP):=by kernel_rfl
theorem ex1:mr Ea AP exT 100=some ([⟨1,0⟩,⟨1,1⟩],[],0):=by kernel_rfl
theorem ex2:mr Ea AP exU 100=some ([],[AP],4):=by kernel_rfl
theorem ex3:lV Ea AP exU [AP]=some 0:=by kernel_rfl
theorem aal:eY Ea AP exT 100=some ([⟨1,0⟩,⟨1,1⟩],[],0):=(JG fw AP GZ 100).trans ((AL fw AP GZ 100).symm.trans ex1)
theorem aaA:eY Ea AP exU 100=some ([],[AP],4):=(JG fw AP zo 100).trans ((AL fw AP zo 100).symm.trans ex2)
theorem aaq:gX Ea AP exU [AP]=some 0:=(Ie fw AP zo [AP]).trans ((Cb fw AP zo [AP]).symm.trans ex3)
theorem ex4:je Ea AP ⟨1,1⟩=some (fZ,44):=by kernel_rfl
def ZR:State:=⟨[false,false],List.replicate 2 false,List.replicate 2 false,[true],List.replicate 1 false,List.replicate 3 false,List.replicate 3 false⟩
def Nv:State:=⟨[false,false],[false,true],List.replicate 2 false,[true],List.replicate 1 false,[false,false,true],List.replicate 3 false⟩
theorem ex5:oV Ea AP ⟨[],[],[],[]⟩ [⟨1,0⟩,⟨1,1⟩]=some (2,ZR,0):=by kernel_rfl
theorem ex6:je Ea Nv ⟨2,1⟩=some (fZ,43):=by kernel_rfl
theorem ex7:oV Ea Nv ⟨[],[2],[],[]⟩ [⟨6,1⟩]=some (0,fZ,45):=by kernel_rfl
theorem ex8:cO Ea Nv ⟨[],[2],[],[]⟩=some 0:=by kernel_rfl
theorem ex9:iN [⟨1,0⟩,⟨1,1⟩] [⟨1,0⟩,⟨1,1⟩]=some true:=by kernel_rfl
theorem aa1:bT ZR.closed [false,false]=some true:=by kernel_rfl
theorem OV {α:Type} {c:Bool} {a b:α} (h:c=false):(bif c then a else b)=b:=by rw [h];rfl
theorem aaz {α:Type} {c:Bool} {a b:α} (h:c=true):(bif c then a else b)=a:=by rw [h];rfl
theorem J6:j4 ⟨[],[],[],[]⟩:=⟨by decide,by decide,by decide,by decide⟩
theorem BG:j4 ⟨[],[2],[],[]⟩:=⟨by decide,by decide,by decide,by decide⟩
theorem ZN:jU Ea AP ⟨1,1⟩=some (fZ,44):=(UE fw AP _).trans ((Lc fw AP _).symm.trans ex4)
theorem aaL:fT Ea AP ⟨[],[],[],[]⟩ [⟨1,0⟩,⟨1,1⟩]=some (2,ZR,0):=(Ia fw AP J6 _).trans ((BI fw AP J6 _).symm.trans ex5)
theorem aa7:jU Ea Nv ⟨2,1⟩=some (fZ,43):=(UE fw Nv _).trans ((Lc fw Nv _).symm.trans ex6)
theorem aaF:fT Ea Nv ⟨[],[2],[],[]⟩ [⟨6,1⟩]=some (0,fZ,45):=(Ia fw Nv BG _).trans ((BI fw Nv BG _).symm.trans ex7)
theorem aaM:eX Ea Nv ⟨[],[2],[],[]⟩=some 0:=(sF fw Nv BG).trans ((jO fw Nv BG).symm.trans ex8)
theorem Ez:nE=some true:=by
 unfold nE
 rw [XV,Option.bind_some]
 dsimp only
 rw [show eY Ea AP (⟨([]:List Int),([]:List Int),[(⟨1,0⟩:af),(⟨2,0⟩:af),(⟨1,1⟩:af),(⟨2,1⟩:af)],[(⟨1,1⟩:af)]⟩:Task) 100=_ from aal,Option.bind_some,ZN,Option.bind_some,OV (by rfl),ex9,Option.bind_some,OV (by rfl),aaL,Option.bind_some,OV (by rfl),aa1,Option.bind_some,OV (by rfl),
  show eY Ea AP (⟨[0],([]:List Int),[(⟨1,0⟩:af),(⟨2,0⟩:af),(⟨1,1⟩:af),(⟨2,1⟩:af)],[(⟨1,1⟩:af)]⟩:Task) 100=_ from aaA,Option.bind_some,OV (by rfl),
  show gX Ea AP (⟨[0],([]:List Int),[(⟨1,0⟩:af),(⟨2,0⟩:af),(⟨1,1⟩:af),(⟨2,1⟩:af)],[(⟨1,1⟩:af)]⟩:Task) [AP]=_ from aaq,Option.bind_some,OV (by rfl),av (by decide)]
 change Option.bind (jU Ea Nv ⟨2,1⟩) _=_
 rw [aa7,Option.bind_some]
 change Option.bind (fT Ea Nv ⟨[],[2],[],[]⟩ [⟨6,1⟩]) _=_
 rw [aaF,Option.bind_some,aaz (by rfl)]
 change Option.bind (eX Ea Nv ⟨[],[2],[],[]⟩) _=_
 rw [aaM,Option.bind_some]
 rfl
theorem ET (l:List af) (h:l.length≤9223372036854775807):iN l l=some true:=by
 unfold iN
 rw [decide_eq_true rfl]
 simp only [Bool.not_true,cond_false]
 have key:aC (j3 l l) FUEL 0=some (.brk ()):= ?_
 ·rw [key];rfl
 refine Ls l h (fun i hi=> ?_) (by unfold j3;simp)
 unfold j3
 simp only [Int.toNat_natCast]
 rw [vE (by omega),cond_true,av (by omega),wr (by omega)]
 simp
theorem D7 (l:List State) (h:l.length≤9223372036854775807) (hr: ∀x∈l,Dy x):mq l l=some true:=by
 unfold mq
 rw [decide_eq_true rfl]
 simp only [Bool.not_true,cond_false]
 have key:aC (jA l l) FUEL 0=some (.brk ()):= ?_
 ·rw [key];rfl
 refine Ls l h (fun i hi=> ?_) (by unfold jA;simp)
 unfold jA
 simp only [Int.toNat_natCast]
 rw [vE (by omega),cond_true,Fp _ (hr _ (at_mem hi)),Option.bind_some,av (by omega),wr (by omega)]
 rfl
def QY (p:au) (t:Task):Bool:=(bif (bif (bif (bif (bif (bif (decide (60<(p.sources.length:Int)))then true else(decide (60<(p.links.length:Int))))then true else(decide (60<(p.racks.length:Int))))then true else(decide (60<(t.fed.length:Int))))then true else(decide (60<(t.crew.length:Int))))then true else(decide (60<(t.allowed.length:Int))))then true else(decide (60<(t.goal.length:Int))))
theorem Wj (p:au) (t:Task):yC p t=some (QY p t):=rfl
structure IZ (t:Task):Prop where
 f:t.fed.length≤60
 c:t.crew.length≤60
 a:t.allowed.length≤60
 g:t.goal.length≤60
structure U6 (p:au):Prop where
 s:p.sources.length≤60
 l:p.links.length≤60
 r:p.racks.length≤60
theorem Nn {p:au} {t:Task} (h:QY p t=false):U6 p∧IZ t:=by
 unfold QY at h
 simp only [eF,Bool.or_eq_false_iff,decide_eq_false_iff_not]at h
 obtain⟨⟨⟨⟨⟨⟨h1,h2⟩,h3⟩,h4⟩,h5⟩,h6⟩,h7⟩:=h
 exact⟨⟨by omega,by omega,by omega⟩,⟨by omega,by omega,by omega,by omega⟩⟩
theorem IZ.small {t:Task} (h:IZ t):j4 t:=by
 obtain⟨h1,h2,h3,h4⟩:=h
 exact⟨by omega,by omega,by omega,by omega⟩
theorem DF (l:List Int) (h:l.length≤60):lY l=some l:=by
 unfold lY;rw [av (by omega)]
theorem Bw (l:List af) (h:l.length≤1000):fB l=some l:=by
 unfold fB;rw [av (by omega)]
theorem Wm {t:Task} (h:IZ t):qH t=some t:=by
 obtain⟨h1,h2,h3,h4⟩:=h
 unfold qH
 rw [DF _ h1,DF _ h2,Bw _ (by omega),Bw _ (by omega)]
 rfl
theorem Rj {p:au} (s:State) (t:Task) (most:Int):(∀u∈(Dt p s t most).2.1,Dy u)∧(Dt p s t most).2.1.length≤100000∧(Dt p s t most).1.length≤100000:=by
 unfold Dt
 by_cases h:qf p s t=0
 ·obtain⟨h1,h2,h3,h4⟩:=jH h
  rw [if_neg (by simp [h])]
  by_cases hmm:most<1∨20000<most
  ·rw [if_pos hmm];simp
  ·rw [if_neg hmm]
   by_cases hm:Am s t.goal=true
   ·rw [if_pos hm];simp
   ·rw [if_neg hm]
    have hm:1≤most∧most≤20000:=by omega
    have hok:=Ns h1 h3 hm 20002 0 [s] [(-1,⟨0,0⟩)] (FD h2 hm _)
    revert hok
    cases Ov p t most 20002 0 [s] [(-1,⟨0,0⟩)]with
    |go ls fb=>exact fun hok=> ⟨fun u hu=>VS.room h1 (hok.1.vs u hu),by have:=hok.1.most;simp only;omega,by simp⟩
    |large=>exact fun _=>by simp
    |found ls fb=>exact fun hok=> ⟨by simp,by simp,by have:=hok.1.most;simp only;have:=Co fb (ls.length - 1+1) ((ls.length - 1:Nat):Int);unfold path;omega⟩
 ·rw [if_pos h];simp
theorem DL {p:au} (s:State) (t:Task) (most:Int) (hp:Small p):j6 p s t most=some true:=by
 unfold j6
 rw [Wj,Option.bind_some]
 generalize hc:(bif (bif QY p t then true else(bif (decide (9<(t.allowed.length:Int)))then(decide ((t.allowed.length:Int)≤24))else false))then true else(bif (decide (300<most))then(decide (most≤20000))else false))=c
 cases c with
 |true=>rw [cond_true,Ez];rfl
 |false=>
  have hb:QY p t=false:=by
   simp only [eF,Bool.or_eq_false_iff]at hc
   exact hc.1.1
  obtain⟨h6,h7⟩:=Nn hb
  have hst:=h7.small
  obtain⟨f1,f2,f3⟩:=Rj (p:=p) s t most
  rw [cond_false,Wm h7,Option.bind_some,JG hp s hst,Option.bind_some,AL hp s hst,Option.bind_some]
  rw [ET _ (by omega),D7 _ (by omega) f1]
  simp only [decide_true,gB]
  simp only [Bool.not_true,Option.bind_some,cond_false,cond_true,List.all_cons,List.all_nil,Bool.and_true,beq_self_eq_true]
  rw [Ie hp s hst,Cb hp s hst,Ez]
  simp
end Sg
