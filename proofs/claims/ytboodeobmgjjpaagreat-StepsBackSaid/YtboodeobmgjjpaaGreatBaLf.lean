import Derived.Test.YtboodeobmgjjpaaGreatBaLe
import Derived.KernelRfl
import Derived.Test.YtboodeobmgjjpaaGreatBaLc
import Derived.SizedLaws
set_option linter.all false
namespace Sg
open Go
abbrev PR:=Nat × List af × List State × Int × Int × Search
def WL (p:au) (o:Option (Ex (List Reached × List (List Bool × Bool) × Int) PR)):Out→Prop
 | .go ls fb=> ∃kn,Kn p ls kn∧o=some (.brk (rL ls fb,kn, -1))
 | .large=> ∃f x,o=some (.ret (3,[],[],8,f,x))
 | .found ls fb=> ∃kn,Kn p ls kn∧(o=some (.ret (2,[],[],0,(ls.length:Int) - 1,⟨rL ls fb,kn⟩))∨o=some (.brk (rL ls fb,kn,(ls.length:Int) - 1)))
section
variable {p:au} (hp:VP p) {t:Task} (ht:ny p t=true) {most:Int} (hm:1≤most∧most≤20000)
include hp ht hm
theorem Ea {now:State} (hn:VS p now) (i:Nat): ∀(n k:Nat) (ls:List State) (fb:List (Int × af)) (kn:List (List Bool × Bool)),Rc p most ls fb→i<ls.length→Kn p ls kn→k+n=t.allowed.length→
  ∃m,m≤n+2∧WL p (aB (bN (i:Int) now.closed now.locked now.badLink now.on_ now.badSource now.earthed now.badBus p t most [] [] 0) m (rL ls fb,kn, -1,(k:Int))) (LW p t most now i n k ls fb)
 |0,k,ls,fb,kn,h,hi,hk,hkn=>by
  refine⟨1,by omega,kn,hk, ?_⟩
  have:decide ((k:Int)<(t.allowed.length:Int))=false:=decide_eq_false (by omega)
  rw [aF]
  unfold bN
  simp only [this,cond_false]
 |n+1,k,ls,fb,kn,h,hi,hk,hkn=>by
  obtain⟨_,_,⟨al,ax⟩,⟨gl,gx⟩⟩:=eO ht
  have hb:bN (i:Int) now.closed now.locked now.badLink now.on_ now.badSource now.earthed now.badBus p t most [] [] 0 (rL ls fb,kn, -1,(k:Int))=
    (bif (!decide ((nextR p now t (at' t.allowed k)).2=0))then some (.next (rL ls fb,kn, -1,((k+1:Nat):Int)))else
     (dM (nextR p now t (at' t.allowed k)).1 (i:Int) (at' t.allowed k) ⟨rL ls fb,kn⟩).bind fun r_1=>
      bif (!r_1.1)then some (.next (r_1.2.l,r_1.2.known, -1,((k+1:Nat):Int)))else
      bif (decide (most<(r_1.2.l.length:Int)))then some (.done (.ret (3,([]:List af),([]:List State),8, -1,r_1.2)))else
      (lU (nextR p now t (at' t.allowed k)).1 t.goal).bind fun r_2=>
      bif r_2 then some (.next (r_1.2.l,r_1.2.known,(IntKind.wrap .i64 ((r_1.2.l.length:Int) - 1)),((k+1:Nat):Int)))else some (.next (r_1.2.l,r_1.2.known, -1,((k+1:Nat):Int)))):=by
   unfold bN
   simp only [Int.toNat_natCast]
   rw [uy (by omega),cond_true,av (by omega)]
   have h0:decide ((0:Int)≤ -1)=false:=by decide
   rw [h0,cond_false,show(⟨now.closed,now.locked,now.badLink,now.on_,now.badSource,now.earthed,now.badBus⟩:State)=now from rfl,Jd hp hn ht,Option.bind_some,wr (x:=(k:Int)+1) (by omega)]
   rfl
  unfold LW
  by_cases h1:(nextR p now t (at' t.allowed k)).2=0
  ·have hv:=kM hp hn h1
   have hvs:VS p (nextR p now t (at' t.allowed k)).1:=by rw [hv.2.1];exact hv.2.2.1
   rw [if_neg (by simp [h1])]
   have hll:=h.most
   rw [h1,decide_eq_true rfl,Bool.not_true,cond_false,add_eq (x:=⟨rL ls fb,kn⟩) hk hvs (i:Int) (at' t.allowed k) (by show(rL ls fb).length≤_;rw [nU];omega),Option.bind_some]at hb
   by_cases h2:(nextR p now t (at' t.allowed k)).1∈ls
   ·rw [if_pos h2]
    rw [decide_eq_true h2]at hb
    simp only [cond_true,Bool.not_false]at hb
    obtain⟨m,hm1,hm2⟩:=Ea hn i n (k+1) ls fb kn h hi hk (by omega)
    refine⟨m+1,by omega, ?_⟩
    rw [aF,hb];exact hm2
   ·rw [if_neg h2]
    rw [decide_eq_false h2]at hb
    simp only [cond_false,Bool.not_true]at hb
    simp only [U2 h.len,nU]at hb
    by_cases h3:most<((ls++[(nextR p now t (at' t.allowed k)).1]).length:Int)
    ·rw [if_pos h3]
     rw [decide_eq_true h3,cond_true]at hb
     exact⟨1,by omega,_,_,by rw [aF,hb]⟩
    ·rw [if_neg h3]
     rw [decide_eq_false h3,cond_false,IE hvs (by omega) gx,Option.bind_some]at hb
     have hr:=h.add hvs hi (x:=at' t.allowed k) (by omega)
     have hkn2:=hk.add hp hvs
     have hlen:((ls++[(nextR p now t (at' t.allowed k)).1]).length:Int)≤20000:=by omega
     cases h4:Bw (nextR p now t (at' t.allowed k)).1 t.goal with
     |true=>
      rw [if_pos rfl]
      rw [h4,cond_true,wr (by omega)]at hb
      by_cases h5:k+1<t.allowed.length
      ·refine⟨2,by omega,_,hkn2, .inl ?_⟩
       rw [aF,hb]
       simp only
       rw [aF]
       unfold bN
       simp only [Int.toNat_natCast]
       rw [uy (by omega),cond_true,av (by omega)]
       have hps:=hr.pos
       rw [decide_eq_true (show(0:Int)≤((ls++[(nextR p now t (at' t.allowed k)).1]).length:Int) - 1 by omega)]
       rfl
      ·refine⟨2,by omega,_,hkn2, .inr ?_⟩
       rw [aF,hb]
       simp only
       rw [aF]
       unfold bN
       have:decide (((k+1:Nat):Int)<(t.allowed.length:Int))=false:=decide_eq_false (by omega)
       simp only [this,cond_false]
     |false=>
      rw [if_neg (by simp)]
      rw [h4,cond_false]at hb
      obtain⟨m,hm1,hm2⟩:=Ea hn i n (k+1) _ _ _ hr (by simp;omega) hkn2 (by omega)
      refine⟨m+1,by omega, ?_⟩
      rw [aF,hb];exact hm2
  ·rw [if_pos h1]
   rw [decide_eq_false h1,Bool.not_false,cond_true]at hb
   obtain⟨m,hm1,hm2⟩:=Ea hn i n (k+1) ls fb kn h hi hk (by omega)
   refine⟨m+1,by omega, ?_⟩
   rw [aF,hb];exact hm2
theorem F6 {now:State} (i:Int) {f:Int} (hf:0≤f) (x:Search):dm i now.closed now.locked now.badLink now.on_ now.badSource now.earthed now.badBus p t most [] [] 0 f x=
  some (if t.allowed=[]then(0,[],[],0,f,x)else(2,[],[],0,f,x)):=by
 obtain⟨_,_,⟨al,ax⟩,_⟩:=eO ht
 unfold dm
 have hF: ∃k,FUEL=k+1:=⟨1180591620717411303423,rfl⟩
 obtain⟨k,hk⟩:=hF
 rw [hk,aF]
 unfold bN
 by_cases h:t.allowed=[]
 ·rw [if_pos h]
  have:decide ((0:Int)<(t.allowed.length:Int))=false:=decide_eq_false (by rw [h];simp)
  simp only [this,cond_false]
  rfl
 ·rw [if_neg h]
  have hpos:=List.length_pos_iff.2 h
  simp only
  rw [uy (by omega),cond_true,av (by omega),decide_eq_true hf]
  rfl
def XG (p:au) (o:Option (Ex (List af × List State × Int × List Reached × List (List Bool × Bool) × Int) PR)):Out→Prop
 | .go ls fb=> ∃kn,o=some (.brk ([],[],0,rL ls fb,kn, -1))
 | .large=> ∃f x,o=some (.ret (3,[],[],8,f,x))
 | .found ls fb=> ∃kn,o=some (.ret (2,[],[],0,(ls.length:Int) - 1,⟨rL ls fb,kn⟩))
omit hp ht hm in
noncomputable def Pw (p:au) (t:Task) (most:Int):Nat→Nat→List State→List (Int × af)→Out
 |0,_,ls,fb=> .go ls fb
 |F+1,i,ls,fb=>if i<ls.length then(match LW p t most (at' ls i) i t.allowed.length 0 ls fb with| .go ls' fb'=>Pw p t most F (i+1) ls' fb'| .large=> .large| .found ls' fb'=> .found ls' fb')else .go ls fb
theorem Oa {now:State} (i:Nat): ∀(n k:Nat) (ls:List State) (fb:List (Int × af)) (ls':List State) (fb':List (Int × af)),k+n=t.allowed.length→LW p t most now i n k ls fb= .found ls' fb'→t.allowed≠[]
 |0,_,_,_,_,_,_,h=>by unfold LW at h;cases h
 |n+1,k,ls,fb,ls',fb',hk,h=>by intro e;rw [e]at hk;simp at hk
theorem Np: ∀(F i:Nat) (ls:List State) (fb:List (Int × af)) (kn:List (List Bool × Bool)),Rc p most ls fb→i≤ls.length→Kn p ls kn→most<(i:Int)+(F:Int)→
  ∃m,m≤F+2∧XG p (aB (aX p t most) m ([],[],0,rL ls fb,kn, -1,(i:Int))) (Pw p t most F i ls fb)
 |0,i,ls,fb,kn,h,hi,hk,hF=>by have:=h.most;omega
 |F+1,i,ls,fb,kn,h,hi,hk,hF=>by
  have hll:=h.most
  by_cases hlt:i<ls.length
  ·have hn:VS p (at' ls i):=h.vs _ (at_mem hlt)
   have hs:(at' (rL ls fb) i).s_=at' ls i:=by unfold rL;rw [gy hlt]
   obtain⟨m0,hm0,hres⟩:=Ea hp ht hm hn i t.allowed.length 0 ls fb kn h hlt hk (by omega)
   have hal:=(eO ht).2.2.1.1
   have hY: ∀r,dm (i:Int) (at' ls i).closed (at' ls i).locked (at' ls i).badLink (at' ls i).on_ (at' ls i).badSource (at' ls i).earthed (at' ls i).badBus p t most [] [] 0 (-1) ⟨rL ls fb,kn⟩=some r→
     aX p t most ([],[],0,rL ls fb,kn, -1,(i:Int))=(bif (Nat.beq r.1 0)then some (.next (r.2.1,r.2.2.1,r.2.2.2.1,r.2.2.2.2.2.l,r.2.2.2.2.2.known,r.2.2.2.2.1,((i+1:Nat):Int)))else some (.done (.ret (r.1,r.2.1,r.2.2.1,r.2.2.2.1,r.2.2.2.2.1,r.2.2.2.2.2)))):=by
    intro r hr
    unfold aX
    simp only [Int.toNat_natCast,hs]
    rw [uy (by rw [nU];omega),cond_true,hr,Option.bind_some,av (by rw [nU];omega),av (by rw [nU];omega),wr (by omega)]
    rfl
   have hE: ∀o,aB (bN (i:Int) (at' ls i).closed (at' ls i).locked (at' ls i).badLink (at' ls i).on_ (at' ls i).badSource (at' ls i).earthed (at' ls i).badBus p t most [] [] 0) m0 (rL ls fb,kn, -1,((0:Nat):Int))=some o→
     aB (bN (i:Int) (at' ls i).closed (at' ls i).locked (at' ls i).badLink (at' ls i).on_ (at' ls i).badSource (at' ls i).earthed (at' ls i).badBus p t most [] [] 0) FUEL (rL ls fb,kn, -1,0)=some o:=fun o ho=>dN ho (by unfold FUEL;omega)
   have hok:=C8 hp ht hm hn i t.allowed.length 0 ls fb h hlt
   have hfd:=Oa (now:=at' ls i) hp ht hm i t.allowed.length 0 ls fb
   unfold Pw
   rw [if_pos hlt]
   revert hres hok hfd
   cases LW p t most (at' ls i) i t.allowed.length 0 ls fb with
   |go ls' fb'=>
    rintro ⟨kn',hk',ho⟩ hok _
    have hy:=hY (0,[],[],0, -1,⟨rL ls' fb',kn'⟩) (by unfold dm;rw [hE _ ho];rfl)
    obtain⟨m,hm1,hm2⟩:=Np F (i+1) ls' fb' kn' hok.1 (by have:=hok.2;omega) hk' (by omega)
    refine⟨m+1,by omega, ?_⟩
    rw [aF,hy]
    exact hm2
   |large=>
    rintro ⟨f,x,ho⟩ _ _
    have hy:=hY (3,[],[],8,f,x) (by unfold dm;rw [hE _ ho];rfl)
    exact⟨1,by omega,f,x,by rw [aF,hy];rfl⟩
   |found ls' fb'=>
    rintro ⟨kn',hk',ho⟩ hok hfd
    have hne:=hfd ls' fb' (by omega) rfl
    rcases ho with ho|ho
    ·have hy:=hY (2,[],[],0,(ls'.length:Int) - 1,⟨rL ls' fb',kn'⟩) (by unfold dm;rw [hE _ ho];rfl)
     exact⟨1,by omega,kn',by rw [aF,hy];rfl⟩
    ·have hy:=hY (0,[],[],0,(ls'.length:Int) - 1,⟨rL ls' fb',kn'⟩) (by unfold dm;rw [hE _ ho];rfl)
     refine⟨2,by omega,kn', ?_⟩
     have hlt2:=hok.2
     have hpos:=hok.1.pos
     rw [aF,hy]
     simp only [show Nat.beq 0 0=true from rfl,cond_true]
     rw [aF]
     have hs2:(at' (rL ls' fb') (i+1)).s_=at' ls' (i+1):=by unfold rL;rw [gy (by omega)]
     have hm2:=hok.1.most
     unfold aX
     simp only [Int.toNat_natCast,hs2]
     rw [uy (by rw [nU];omega),cond_true,F6 (now:=at' ls' (i+1)) hp ht hm _ (by omega),if_neg hne,Option.bind_some]
     simp only [show Nat.beq 2 0=false from rfl,cond_false]
     rw [av (by rw [nU];omega)]
  ·refine⟨1,by omega, ?_⟩
   unfold Pw
   rw [if_neg hlt]
   refine⟨kn, ?_⟩
   have:decide ((i:Int)<((rL ls fb).length:Int))=false:=decide_eq_false (by rw [nU];omega)
   rw [aF]
   unfold aX
   simp only [this,cond_false]
theorem Q0: ∀(F i:Nat) (ls:List State) (fb:List (Int × af)),Rc p most ls fb→Ui p most 0 (Pw p t most F i ls fb)
 |0,_,ls,fb,h=> ⟨h,Nat.zero_le _⟩
 |F+1,i,ls,fb,h=>by
  unfold Pw
  by_cases hlt:i<ls.length
  ·rw [if_pos hlt]
   have hok:=C8 hp ht hm (h.vs _ (at_mem hlt)) i t.allowed.length 0 ls fb h hlt
   revert hok
   cases LW p t most (at' ls i) i t.allowed.length 0 ls fb with
   |go ls' fb'=>exact fun hok=>Q0 F (i+1) ls' fb' hok.1
   |large=>exact fun _=>trivial
   |found ls' fb'=>exact fun hok=> ⟨hok.1,by have:=hok.2;omega⟩
  ·rw [if_neg hlt];exact⟨h,Nat.zero_le _⟩
end
theorem JG {p:au} {s:State} (hs:VS p s) {most:Int} (hm:1≤most∧most≤20000) (x:af):Rc p most [s] [(-1,x)]:=
 ⟨fun u hu=>by rw [List.mem_singleton]at hu;rw [hu];exact hs,rfl,by simp,by simp;omega,fun j hj h0=>by simp at hj;omega⟩
theorem EX {p:au} {most:Int} {ls:List State} {fb:List (Int × af)} (h:Rc p most ls fb) (hm:most≤20000) {j:Nat} (hj:j<ls.length) (kn:List (List Bool × Bool)):
  bW (j:Int) ⟨rL ls fb,kn⟩=some (path fb j):=by
 have hll:=h.most;have hlen:=h.len
 have run: ∀(n j:Nat) (out:List af),j<ls.length→j<n→out.length+n≤100000→ ∃m,m≤n+1∧aB (dW ⟨rL ls fb,kn⟩) m ((j:Int),out)=some (.brk (out++(qF fb n (j:Int)).reverse)):=by
  intro n
  induction n with
  |zero=>intro j out _ h1 _;omega
  |succ n ih=>
   intro j out hj h1 ho
   by_cases c:(j:Int)≤0
   ·refine⟨1,by omega, ?_⟩
    rw [aF]
    unfold dW qF
    have:decide ((0:Int)<(j:Int))=false:=decide_eq_false (by omega)
    simp only [this,cond_false,if_pos c,List.reverse_nil,List.append_nil]
   ·have hf:=h.from_ j (by omega) (by omega)
    have hb:dW ⟨rL ls fb,kn⟩ ((j:Int),out)=some (.next ((at' fb j).1,out++[(at' fb j).2])):=by
     unfold dW
     simp only [Int.toNat_natCast]
     have e1:at' (rL ls fb) j=⟨at' ls j,(at' fb j).1,(at' fb j).2⟩:=by unfold rL;rw [gy hj]
     rw [uy (by omega),cond_true,av ⟨by rw [nU];omega,by simp only [List.length_singleton];omega,by simp only [List.length_singleton];omega⟩,av (by rw [nU];omega),e1]
    have e:(at' fb j).1=(((at' fb j).1.toNat:Nat):Int):=by omega
    obtain⟨m,hm1,hm2⟩:=ih (at' fb j).1.toNat (out++[(at' fb j).2]) (by omega) (by omega) (by simp only [List.length_append,List.length_singleton];omega)
    refine⟨m+1,by omega, ?_⟩
    rw [aF,hb]
    simp only
    rw [e,hm2]
    conv=>rhs;rw [qF]
    rw [if_neg c,Int.toNat_natCast,List.reverse_append,←e]
    simp
 obtain⟨m,hm1,hm2⟩:=run (j+1) j [] hj (by omega) (by simp;omega)
 unfold bW
 rw [dN hm2 (by unfold FUEL;omega)]
 simp only [List.nil_append,Option.bind_some]
 have hpl:=EP fb (j+1) (j:Int)
 rw [Mw _ (by rw [List.length_reverse];omega),Option.bind_some,av (by simp),List.reverse_reverse]
 rfl
def pL (fb:List (Int × af)):List (List af):=tab fb.length (path fb)
theorem Vy {p:au} {most:Int} {ls:List State} {fb:List (Int × af)} (h:Rc p most ls fb) {i:Nat} (hi:i<fb.length) (x:af):pL fb++[path fb i++[x]]=pL (fb++[((i:Int),x)]):=by
 apply kX (by simp [pL,aM])
 intro j hj
 unfold pL at hj ⊢
 rw [List.length_append,List.length_singleton,aM]at hj
 rw [gy (by rw [List.length_append,List.length_singleton];exact hj)]
 by_cases e:j<fb.length
 ·rw [uL (by rw [aM];exact e),gy e,Ro h e]
 ·have e2:j=fb.length:=by omega
  have:=xg (tab fb.length (path fb)) (path fb i++[x])
  rw [aM]at this
  rw [e2,this,LP h hi]
abbrev FR:=List af × List State × Int
def U0 (o:Option (Ex (List State × List (List af)) (bD (List State × List (List af) × Int) (Ex (List State) FR)))):Out→Prop
 | .go ls fb=>o=some (.brk (ls,pL fb))
 | .large=>o=some (.ret (.done (.ret ([],[],8))))
 | .found ls fb=>o=some (.ret (.done (.ret (path fb (ls.length - 1),[],0))))
def Vj (o:Option (Ex (List State) FR)):Out→Prop
 | .go ls fb=>o=some (.brk ls)
 | .large=>o=some (.ret ([],[],8))
 | .found ls fb=>o=some (.ret (path fb (ls.length - 1),[],0))
section
variable {p:au} (hp:VP p) {t:Task} (ht:ny p t=true) (hst:jK t) {most:Int} (hm:1≤most∧most≤20000)
include hp ht hst hm
theorem Js (i:Nat): ∀(n k:Nat) (ls:List State) (fb:List (Int × af)),Rc p most ls fb→i<ls.length→k+n=t.allowed.length→
  ∃m,m≤n+1∧U0 (aB (gL p t most (i:Int)) m (ls,pL fb,(k:Int))) (LW p t most (at' ls i) i n k ls fb)
 |0,k,ls,fb,h,hi,hkn=>by
  refine⟨1,by omega, ?_⟩
  show _=_
  have:decide ((k:Int)<(t.allowed.length:Int))=false:=decide_eq_false (by omega)
  rw [aF]
  unfold gL
  simp only [this,cond_false]
 |n+1,k,ls,fb,h,hi,hkn=>by
  obtain⟨_,_,⟨al,ax⟩,⟨gl,gx⟩⟩:=eO ht
  have hll:=h.most;have hlen:=h.len
  have hn:VS p (at' ls i):=h.vs _ (at_mem hi)
  have hroom: ∀x∈ls,Hw x:=fun x hx=>VS.room hp (h.vs x hx)
  have hpl:(path fb i).length≤20001:=by have:=EP fb (i+1) (i:Int);unfold path;omega
  have hpi:at' (pL fb) i=path fb i:=by unfold pL;rw [gy (by omega)]
  have hpn:(pL fb).length=fb.length:=aM _ _
  obtain⟨ri,ri1,ri2⟩:=EO (l:=ls) (by omega) hroom (nextR p (at' ls i) t (at' t.allowed k)).1
  have hb:gL p t most (i:Int) (ls,pL fb,(k:Int))=
    (if(nextR p (at' ls i) t (at' t.allowed k)).2≠0 then some (.next (ls,pL fb,((k+1:Nat):Int)))else
     if(nextR p (at' ls i) t (at' t.allowed k)).1∈ls then some (.next (ls,pL fb,((k+1:Nat):Int)))else
     if most<((ls++[(nextR p (at' ls i) t (at' t.allowed k)).1]).length:Int)then some (.done (.ret (.done (.ret ([],[],8)))))else
     if Bw (nextR p (at' ls i) t (at' t.allowed k)).1 t.goal=true then some (.done (.ret (.done (.ret (path fb i++[at' t.allowed k],[],0)))))else
     some (.next (ls++[(nextR p (at' ls i) t (at' t.allowed k)).1],pL fb++[path fb i++[at' t.allowed k]],((k+1:Nat):Int)))):=by
   unfold gL
   simp only [Int.toNat_natCast]
   rw [uy (by omega),cond_true,BX hp hn,Option.bind_some,av ⟨by omega,by omega⟩,wr (by omega)]
   by_cases h0:Fp p (at' ls i) (at' t.allowed k)=0
   ·have e:Gn p (at' ls i) (at' t.allowed k)=(gF (at' ls i) (at' t.allowed k),0):=by unfold Gn;rw [if_pos h0]
    have en:nextR p (at' ls i) t (at' t.allowed k)=(gF (at' ls i) (at' t.allowed k),vU p (gF (at' ls i) (at' t.allowed k)) t):=by unfold nextR;rw [if_pos h0]
    have ha:=VS.YS hp hn (qG h0).1
    rw [en]at ri1 ri2
    rw [e,en]
    simp only at ri1 ri2 ⊢
    simp only [decide_true,Bool.not_true,gB,Bool.and_true,show(false==false)=true from rfl,cond_true,cond_false]
    rw [jT (VP.small hp) _ hst,rG hp ha ht,Option.bind_some]
    by_cases h2:vU p (gF (at' ls i) (at' t.allowed k)) t=0
    ·rw [if_neg (by simp [h2]),h2]
     simp only [decide_true,Bool.not_true,gB,Bool.and_true,show(false==false)=true from rfl,cond_true,cond_false]
     rw [ri1,Option.bind_some]
     by_cases h3:gF (at' ls i) (at' t.allowed k)∈ls
     ·rw [if_pos h3,decide_eq_true (ri2.2 h3),cond_true];rfl
     ·rw [if_neg h3,decide_eq_false (fun q=>h3 (ri2.1 q)),cond_false]
      have hcs:gM (at' (pL fb) i)=some (path fb i):=by
       rw [hpi];unfold gM;rw [av (by omega)]
      rw [av ⟨by simp only [List.length_singleton];omega,by simp only [List.length_singleton];omega⟩,hcs,Option.bind_some]
      rw [av ⟨by rw [hpn];omega,by omega,by simp only [List.length_singleton];omega,by simp only [List.length_singleton];omega⟩]
      rw [av ⟨by simp only [List.length_singleton,hpn];omega,by simp only [List.length_singleton,hpn];omega⟩]
      by_cases h4:most<((ls++[gF (at' ls i) (at' t.allowed k)]).length:Int)
      ·rw [if_pos h4,decide_eq_true h4,cond_true]
      ·rw [if_neg h4,decide_eq_false h4,cond_false,Cq ha (by omega) gx,Option.bind_some]
       cases Bw (gF (at' ls i) (at' t.allowed k)) t.goal with
       |true=>rw [if_pos rfl,cond_true]
       |false=>rw [if_neg (by simp),cond_false];rfl
    ·rw [if_pos (by simpa using h2)]
     simp only [decide_eq_false h2,Bool.not_false,gB,Bool.and_true,show(true==false)=false from rfl,cond_true,cond_false,Option.bind_some]
     rfl
   ·have e:Gn p (at' ls i) (at' t.allowed k)=(fG,Fp p (at' ls i) (at' t.allowed k)):=by unfold Gn;rw [if_neg h0]
    have en:nextR p (at' ls i) t (at' t.allowed k)=(fG,Fp p (at' ls i) (at' t.allowed k)):=by unfold nextR;rw [if_neg h0]
    rw [e,en]
    simp only
    rw [if_pos (by simpa using h0)]
    simp only [decide_eq_false h0,Bool.not_false,gB,Bool.and_true,show(true==false)=false from rfl,cond_true,cond_false,Option.bind_some]
    rfl
  unfold LW
  split
  ·rename_i h1
   rw [if_pos h1]at hb
   obtain⟨m,hm1,hm2⟩:=Js i n (k+1) ls fb h hi (by omega)
   refine⟨m+1,by omega, ?_⟩
   rw [aF,hb];exact hm2
  ·rename_i h1
   rw [if_neg h1]at hb
   have hv:=kM hp hn (Decidable.not_not.1 h1)
   have hvs:VS p (nextR p (at' ls i) t (at' t.allowed k)).1:=by rw [hv.2.1];exact hv.2.2.1
   split
   ·rename_i h2
    rw [if_pos h2]at hb
    obtain⟨m,hm1,hm2⟩:=Js i n (k+1) ls fb h hi (by omega)
    refine⟨m+1,by omega, ?_⟩
    rw [aF,hb];exact hm2
   ·rename_i h2
    rw [if_neg h2]at hb
    split
    ·rename_i h3
     rw [if_pos h3]at hb
     exact⟨1,by omega,by show _=_;rw [aF,hb]⟩
    ·rename_i h3
     rw [if_neg h3]at hb
     have hr:=h.add hvs hi (x:=at' t.allowed k) (by omega)
     split
     ·rename_i h4
      rw [if_pos h4]at hb
      refine⟨1,by omega, ?_⟩
      show _=_
      rw [aF,hb]
      have e1:(ls++[(nextR p (at' ls i) t (at' t.allowed k)).1]).length - 1=fb.length:=by rw [List.length_append,List.length_singleton];omega
      rw [e1,LP h (by omega)]
     ·rename_i h4
      rw [if_neg h4]at hb
      have hat:at' (ls++[(nextR p (at' ls i) t (at' t.allowed k)).1]) i=at' ls i:=uL hi
      obtain⟨m,hm1,hm2⟩:=Js i n (k+1) _ _ hr (by rw [List.length_append,List.length_singleton];omega) (by omega)
      rw [hat]at hm2
      refine⟨m+1,by omega, ?_⟩
      rw [aF,hb]
      simp only
      rw [Vy h (by omega)]
      exact hm2
theorem Rf: ∀(F i:Nat) (ls:List State) (fb:List (Int × af)),Rc p most ls fb→i≤ls.length→most<(i:Int)+(F:Int)→
  ∃m,m≤F+1∧Vj (aB (fE p t most) m (ls,pL fb,(i:Int))) (Pw p t most F i ls fb)
 |0,i,ls,fb,h,hi,hF=>by have:=h.most;omega
 |F+1,i,ls,fb,h,hi,hF=>by
  have hll:=h.most
  by_cases hlt:i<ls.length
  ·obtain⟨m0,hm0,hres⟩:=Js hp ht hst hm i t.allowed.length 0 ls fb h hlt (by omega)
   have hal:=(eO ht).2.2.1.1
   have hok:=C8 hp ht hm (h.vs _ (at_mem hlt)) i t.allowed.length 0 ls fb h hlt
   have hE: ∀o,aB (gL p t most (i:Int)) m0 (ls,pL fb,((0:Nat):Int))=some o→aB (gL p t most (i:Int)) FUEL (ls,pL fb,0)=some o:=fun o ho=>dN ho (by unfold FUEL;omega)
   unfold Pw
   rw [if_pos hlt]
   revert hres hok
   cases LW p t most (at' ls i) i t.allowed.length 0 ls fb with
   |go ls' fb'=>
    intro ho hok
    obtain⟨m,hm1,hm2⟩:=Rf F (i+1) ls' fb' hok.1 (by have:=hok.2;omega) (by omega)
    refine⟨m+1,by omega, ?_⟩
    rw [aF]
    unfold fE
    simp only
    rw [uy (by omega),cond_true,hE _ ho,Option.bind_some,wr (by omega)]
    exact hm2
   |large=>
    intro ho _
    refine⟨1,by omega, ?_⟩
    show _=_
    rw [aF]
    unfold fE
    simp only
    rw [uy (by omega),cond_true,hE _ ho,Option.bind_some]
   |found ls' fb'=>
    intro ho _
    refine⟨1,by omega, ?_⟩
    show _=_
    rw [aF]
    unfold fE
    simp only
    rw [uy (by omega),cond_true,hE _ ho,Option.bind_some]
  ·refine⟨1,by omega, ?_⟩
   unfold Pw
   rw [if_neg hlt]
   show _=_
   have:decide ((i:Int)<(ls.length:Int))=false:=decide_eq_false (by omega)
   rw [aF]
   unfold fE
   simp only [this,cond_false]
end
noncomputable def Nv (p:au) (s:State) (t:Task) (most:Int):FR:=
 if mq p s t≠0 then([],[],mq p s t)else if most<1∨20000<most then([],[],1)else if Bw s t.goal=true then([],[],0)else
  match Pw p t most 20002 0 [s] [(-1,⟨0,0⟩)]with
  | .go ls _=>([],ls,4)
  | .large=>([],[],8)
  | .found ls fb=>(path fb (ls.length - 1),[],0)
theorem El {p:au} (hp:Small p) (s:State) {t:Task} (hst:jK t) (most:Int):rO p s t most=some (Nv p s t most):=by
 unfold rO Nv
 rw [jT hp s hst,Option.bind_some]
 by_cases h:mq p s t=0
 ·obtain⟨h1,h2,h3,h4⟩:=jL h
  rw [if_neg (by simp [h]),h]
  simp only [decide_true,Bool.not_true,cond_false]
  by_cases hmm:most<1∨20000<most
  ·rw [if_pos hmm,eF]
   have:(decide (most<1)||decide (20000<most))=true:=by
    rw [Bool.or_eq_true,decide_eq_true_iff,decide_eq_true_iff];exact hmm
   rw [this];rfl
  ·rw [if_neg hmm,eF]
   have:(decide (most<1)||decide (20000<most))=false:=by
    rw [Bool.or_eq_false_iff,decide_eq_false_iff_not,decide_eq_false_iff_not];exact⟨fun q=>hmm (.inl q),fun q=>hmm (.inr q)⟩
   rw [this,cond_false]
   obtain⟨_,_,_,⟨gl,gx⟩⟩:=eO h3
   rw [Cq h2 (by omega) gx,Option.bind_some]
   cases Bw s t.goal with
   |true=>rw [if_pos rfl];rfl
   |false=>
    rw [if_neg (by simp),cond_false]
    have hm:1≤most∧most≤20000:=by omega
    obtain⟨m,hm1,hm2⟩:=Rf h1 h3 hst hm 20002 0 [s] [(-1,⟨0,0⟩)] (JG h2 hm _) (by simp) (by omega)
    have e:pL [((-1:Int),(⟨0,0⟩:af))]=[([]:List af)]:=by
     simp [pL,tab,path,qF]
    rw [e]at hm2
    revert hm2
    cases Pw p t most 20002 0 [s] [(-1,⟨0,0⟩)]with
    |go ls fb=>intro ho;rw [show(0:Int)=((0:Nat):Int)from rfl,dN ho (by unfold FUEL;omega)];rfl
    |large=>intro ho;rw [show aB (fE p t most) FUEL ([s],[[]],0)=_ from dN ho (by unfold FUEL;omega)];rfl
    |found ls fb=>intro ho;rw [show aB (fE p t most) FUEL ([s],[[]],0)=_ from dN ho (by unfold FUEL;omega)];rfl
 ·rw [if_pos h];simp [h]
theorem N9 (ls:List State) (fb:List (Int × af)) (kn:List (List Bool × Bool)) (hl:ls.length≤100000):bY [] ⟨rL ls fb,kn⟩=some ls:=by
 have key:aB (bZ ⟨rL ls fb,kn⟩) FUEL (ls.take 0,((0:Nat):Int))=some (.brk (ls.take ls.length)):=by
  refine dP (body:=bZ ⟨rL ls fb,kn⟩) (fun i=>(ls.take i,(i:Int))) ls.length _ (fuel_lt (by omega)) (fun i hi=> ?_) ?_
  ·have e1:(at' (rL ls fb) i).s_=at' ls i:=by unfold rL;rw [gy hi]
   unfold bZ o5
   simp only [Int.toNat_natCast,e1]
   rw [uy (by rw [nU];omega),cond_true,av ⟨by simp only [List.length_take,List.length_singleton];omega,by simp only [List.length_take,List.length_singleton];omega⟩,Option.bind_some,av (by rw [nU];omega),wr (by omega),oH hi]
   rfl
  ·unfold bZ
   have:decide ((ls.length:Int)<((rL ls fb).length:Int))=false:=decide_eq_false (by rw [nU];omega)
   simp only [this,cond_false]
 rw [List.take_length]at key
 unfold bY
 rw [show aB (bZ ⟨rL ls fb,kn⟩) FUEL ([],0)=_ from key];rfl
theorem Nt {p:au} (hp:Small p) (s:State) {t:Task} (hst:jK t) (most:Int):fT p s t most=some (Nv p s t most):=by
 unfold fT Nv
 rw [qy hp s hst,Option.bind_some]
 by_cases h:mq p s t=0
 ·obtain⟨h1,h2,h3,h4⟩:=jL h
  rw [if_neg (by simp [h]),h]
  simp only [decide_true,Bool.not_true,cond_false]
  by_cases hmm:most<1∨20000<most
  ·rw [if_pos hmm,eF]
   have:(decide (most<1)||decide (20000<most))=true:=by
    rw [Bool.or_eq_true,decide_eq_true_iff,decide_eq_true_iff];exact hmm
   rw [this];rfl
  ·rw [if_neg hmm,eF]
   have:(decide (most<1)||decide (20000<most))=false:=by
    rw [Bool.or_eq_false_iff,decide_eq_false_iff_not,decide_eq_false_iff_not];exact⟨fun q=>hmm (.inl q),fun q=>hmm (.inr q)⟩
   rw [this,cond_false]
   obtain⟨_,_,⟨al,_⟩,⟨gl,gx⟩⟩:=eO h3
   have hm:1≤most∧most≤20000:=by omega
   have hadd:=add_eq (ls:=[]) (x:=⟨[],[]⟩) Kn.nil h2 (-1) ⟨0,0⟩ (by simp)
   rw [H8 s (VS.small h1 h2),Option.bind_some,hadd]
   simp only [List.not_mem_nil,decide_false,cond_false,Option.bind_some]
   rw [IE h2 (by omega) gx,Option.bind_some]
   have e0:([]:List Reached)++[(⟨s, -1,⟨0,0⟩⟩:Reached)]=rL [s] [(-1,⟨0,0⟩)]:=by simp [rL,tab,at']
   have hkn:Kn p [s] (fB (rX 280) (p8 s) true []):=by have:=(Kn.nil (p:=p)).add h1 h2;simpa using this
   rw [e0]
   generalize hk0:fB (rX 280) (p8 s) true ([]:List (List Bool × Bool))=k0 at hkn
   have hrc:=JG h2 hm (⟨0,0⟩:af)
   cases hmet:Bw s t.goal with
   |true=>
    rw [if_pos rfl]
    simp only [cond_true,cK,Option.bind_some]
    have hz:bR p t most [] [] 0 0 ⟨rL [s] [(-1,⟨0,0⟩)],k0⟩=some (if t.allowed=[]then(0,[],[],0,0,⟨rL [s] [(-1,⟨0,0⟩)],k0⟩)else(2,[],[],0,0,⟨rL [s] [(-1,⟨0,0⟩)],k0⟩)):=by
     unfold bR
     obtain⟨k,hk⟩: ∃k,FUEL=k+1+1:=⟨1180591620717411303422,rfl⟩
     rw [hk,aF]
     have hs0:(at' (rL [s] [(-1,⟨0,0⟩)]) 0).s_=s:=rfl
     have b0:aX p t most ([],[],0,rL [s] [(-1,⟨0,0⟩)],k0,0,0)=some (if t.allowed=[]then .next ([],[],0,rL [s] [(-1,⟨0,0⟩)],k0,0,1)else .done (.ret (2,[],[],0,0,⟨rL [s] [(-1,⟨0,0⟩)],k0⟩))):=by
      unfold aX
      simp only
      have hll:((rL [s] [((-1:Int),(⟨0,0⟩:af))]).length:Int)=1:=rfl
      rw [hll,show decide ((0:Int)<1)=true from rfl,cond_true,show((0:Int)).toNat=0 from rfl,hs0,F6 (now:=s) h1 h3 hm 0 (Int.le_refl 0)]
      by_cases ha:t.allowed=[]
      ·rw [if_pos ha,if_pos ha];rfl
      ·rw [if_neg ha,if_neg ha];rfl
     rw [b0]
     by_cases ha:t.allowed=[]
     ·rw [if_pos ha,if_pos ha]
      simp only
      rw [aF]
      rfl
     ·rw [if_neg ha,if_neg ha];rfl
    rw [hz,Option.bind_some]
    have hpr:=EX hrc hm.2 (j:=0) (by simp) k0
    have hpth:path [((-1:Int),(⟨0,0⟩:af))] 0=[]:=by simp [path,qF]
    rw [hpth]at hpr
    have hpr':bW 0 ⟨rL [s] [(-1,⟨0,0⟩)],k0⟩=some []:=hpr
    by_cases ha:t.allowed=[]
    ·rw [if_pos ha]
     simp only [show Nat.beq 0 0=true from rfl,cond_true,show decide ((0:Int)≤0)=true from rfl]
     rw [hpr'];rfl
    ·rw [if_neg ha]
     simp only [show Nat.beq 2 0=false from rfl,show Nat.beq 2 2=true from rfl,cond_true,cond_false,show decide ((0:Int)≤0)=true from rfl]
     rw [hpr'];rfl
   |false=>
    rw [if_neg (by simp)]
    simp only [cond_false,cK,Option.bind_some]
    obtain⟨m,hm1,hm2⟩:=Np h1 h3 hm 20002 0 [s] [(-1,⟨0,0⟩)] k0 hrc (by simp) hkn (by omega)
    have hok:=Q0 h1 h3 hm 20002 0 [s] [(-1,⟨0,0⟩)] hrc
    have hE: ∀o,aB (aX p t most) m ([],[],0,rL [s] [(-1,⟨0,0⟩)],k0, -1,((0:Nat):Int))=some o→aB (aX p t most) FUEL ([],[],0,rL [s] [(-1,⟨0,0⟩)],k0, -1,0)=some o:=fun o ho=>dN ho (by unfold FUEL;omega)
    revert hm2 hok
    cases Pw p t most 20002 0 [s] [(-1,⟨0,0⟩)]with
    |go ls fb=>
     rintro ⟨kn,ho⟩ hok
     have hll:=hok.1.most
     unfold bR
     rw [hE _ ho]
     simp only [Option.bind_some,show Nat.beq 0 0=true from rfl,cond_true,show decide ((0:Int)≤ -1)=false from rfl,cond_false]
     rw [N9 ls fb kn (by omega)];rfl
    |large=>
     rintro ⟨f,x,ho⟩ _
     unfold bR
     rw [hE _ ho]
     simp only [Option.bind_some,show Nat.beq 3 0=false from rfl,show Nat.beq 3 2=false from rfl,cond_false]
     rfl
    |found ls fb=>
     rintro ⟨kn,ho⟩ hok
     have hpos:=hok.1.pos
     unfold bR
     rw [hE _ ho]
     simp only [Option.bind_some,show Nat.beq 2 0=false from rfl,show Nat.beq 2 2=true from rfl,cond_false,cond_true]
     rw [decide_eq_true (show(0:Int)≤(ls.length:Int) - 1 by omega),cond_true]
     have hpr:=EX hok.1 hm.2 (j:=ls.length - 1) (by omega) kn
     rw [show((ls.length - 1:Nat):Int)=(ls.length:Int) - 1 by omega]at hpr
     rw [hpr];rfl
 ·rw [if_pos h];simp [h]
noncomputable def yU (p:au) (t:Task) (y:State):Bool:= !decide (mq p y t=0)||Bw y t.goal
noncomputable def xI (p:au) (t:Task) (l:List State) (y:State) (x:af):Bool:=decide ((nextR p y t x).2=0) && !decide ((nextR p y t x).1∈l)
noncomputable def D8 (p:au) (s:State) (t:Task) (l:List State):Int:=
 if mq p s t≠0 then mq p s t else if 20000<l.length then 2 else bif l.any (yU p t)then 7 else bif !decide (s∈l)then 7 else bif l.any (fun y=>t.allowed.any (xI p t l y))then 7 else 0
theorem FY {p:au} {t:Task} {y:State} (h:yU p t y=false):mq p y t=0∧Bw y t.goal=false:=by
 unfold yU at h
 rw [Bool.or_eq_false_iff,Bool.not_eq_false',decide_eq_true_iff]at h
 exact h
section
variable {p:au} (hp:VP p) {t:Task} (ht:ny p t=true) (hst:jK t) {l:List State} (hl:l.length≤20000)
include hp ht hst hl
theorem Uv: ∀(n i:Nat) (x:Search),i+n=l.length→x.l.length≤i→Kn p (l.take i) x.known→
  ∃m,m≤n+1∧(((l.drop i).any (yU p t)=true∧aB (dh p t l) m (x.l,x.known,(i:Int))=some (.ret 7))∨
   ((l.drop i).any (yU p t)=false∧ ∃x':Search,Kn p l x'.known∧aB (dh p t l) m (x.l,x.known,(i:Int))=some (.brk (x'.l,x'.known))))
 |0,i,x,hi,hx,hk=>by
  refine⟨1,by omega, .inr ⟨?_,x, ?_, ?_⟩⟩
  ·rw [List.drop_eq_nil_of_le (by omega)];rfl
  ·rw [List.take_of_length_le (by omega)]at hk;exact hk
  ·have:decide ((i:Int)<(l.length:Int))=false:=decide_eq_false (by omega)
   rw [aF]
   unfold dh
   simp only [this,cond_false]
 |n+1,i,x,hi,hx,hk=>by
  have hlt:i<l.length:=by omega
  obtain⟨_,_,_,⟨gl,gx⟩⟩:=eO ht
  have hdrop:(l.drop i).any (yU p t)=(yU p t (at' l i)||(l.drop (i+1)).any (yU p t)):=by
   rw [List.drop_eq_getElem_cons hlt,List.any_cons,eY hlt]
  have htk:l.take (i+1)=l.take i++[at' l i]:=oH hlt
  by_cases h0:mq p (at' l i) t=0
  ·obtain⟨_,hv,_,_⟩:=jL h0
   cases hm:Bw (at' l i) t.goal with
   |true=>
    refine⟨1,by omega, .inl ⟨?_, ?_⟩⟩
    ·rw [hdrop];unfold yU;rw [hm];simp
    ·rw [aF]
     unfold dh
     simp only [Int.toNat_natCast]
     rw [uy (by omega),cond_true,av (by omega),qy (VP.small hp) _ hst,h0,Option.bind_some]
     simp only [decide_true,Bool.not_true,gB,Bool.and_true,show(false==false)=true from rfl,cond_true,cond_false]
     rw [IE hv (by omega) gx,hm]
     rfl
   |false=>
    have hb:yU p t (at' l i)=false:=by unfold yU;rw [hm,h0];simp
    have hadd:=add_eq (x:=x) hk hv (-1) ⟨0,0⟩ (by omega)
    obtain⟨x2,hx2,hx2l,hk2⟩: ∃x2:Search,dM (at' l i) (-1) ⟨0,0⟩ x=some (!decide (at' l i∈l.take i),x2)∧x2.l.length≤i+1∧Kn p (l.take (i+1)) x2.known:=by
     by_cases hin:at' l i∈l.take i
     ·refine⟨x, ?_,by omega, ?_⟩
      ·rw [hadd,decide_eq_true hin];rfl
      ·intro u hu
       rw [hk u hu,htk,List.mem_append,List.mem_singleton]
       exact⟨fun q=> .inl q,fun q=>q.elim id fun e=>e ▸ hin⟩
     ·refine⟨⟨x.l++[⟨at' l i, -1,⟨0,0⟩⟩],fB (rX 280) (p8 (at' l i)) true x.known⟩, ?_, ?_, ?_⟩
      ·rw [hadd,decide_eq_false hin];rfl
      ·simp;omega
      ·rw [htk];exact hk.add hp hv
    obtain⟨m,hm1,hm2⟩:=Uv n (i+1) x2 (by omega) hx2l hk2
    have hstep:dh p t l (x.l,x.known,(i:Int))=some (.next (x2.l,x2.known,((i+1:Nat):Int))):=by
     unfold dh
     simp only [Int.toNat_natCast]
     rw [uy (by omega),cond_true,av (by omega),qy (VP.small hp) _ hst,h0,Option.bind_some]
     simp only [decide_true,Bool.not_true,gB,Bool.and_true,show(false==false)=true from rfl,cond_true,cond_false]
     rw [IE hv (by omega) gx,hm,Option.bind_some,cond_false,show(⟨x.l,x.known⟩:Search)=x from rfl,hx2,Option.bind_some,wr (by omega)]
     rfl
    refine⟨m+1,by omega, ?_⟩
    rw [aF,hstep,hdrop,hb,Bool.false_or]
    exact hm2
  ·refine⟨1,by omega, .inl ⟨?_, ?_⟩⟩
   ·rw [hdrop];unfold yU;rw [decide_eq_false h0];simp
   ·rw [aF]
    unfold dh
    simp only [Int.toNat_natCast]
    rw [uy (by omega),cond_true,av (by omega),qy (VP.small hp) _ hst,Option.bind_some]
    simp only [decide_eq_false h0,Bool.not_false,gB,Bool.and_true,show(true==false)=false from rfl,cond_true,cond_false,Option.bind_some]
theorem Y2 {kn:List (List Bool × Bool)} (hk:Kn p l kn) (hv: ∀y∈l,VS p y):aB (lg p t l kn) FUEL 0=some (bif l.any (fun y=>t.allowed.any (xI p t l y))then .ret 7 else .brk ()):=by
 obtain⟨_,_,⟨al,ax⟩,_⟩:=eO ht
 rw [←jI l fun y=>t.allowed.any (xI p t l y)]
 refine bX l.length (fun i=>t.allowed.any (xI p t l (at' l i))) 7 (by omega) (fun i hi=> ?_) (by unfold lg;simp)
 have hvi:=hv _ (at_mem hi)
 have e2:aB (kZ p t l kn (i:Int)) FUEL 0=some (bif t.allowed.any (xI p t l (at' l i))then .ret (.done (.ret 7))else .brk ()):=by
  rw [←jI t.allowed (xI p t l (at' l i))]
  refine bX t.allowed.length (fun k=>xI p t l (at' l i) (at' t.allowed k)) (bD.done (Ex.ret (7:Int)):bD Int (Ex Unit Int)) (by omega) (fun k hk'=> ?_) (by unfold kZ;simp)
  unfold kZ xI
  simp only [Int.toNat_natCast]
  rw [uy (by omega),cond_true,av (by omega),Jd hp hvi ht,Option.bind_some,wr (by omega)]
  by_cases h0:(nextR p (at' l i) t (at' t.allowed k)).2=0
  ·have hn:=kM hp hvi h0
   have hvn:VS p (nextR p (at' l i) t (at' t.allowed k)).1:=by rw [hn.2.1];exact hn.2.2.1
   rw [h0]
   simp only [decide_true,gB,Bool.and_true,beq_self_eq_true,cond_true,Bool.true_and]
   rw [Eg,Option.bind_some,hk.has hvn]
   exact eD _ _ _
  ·simp only [decide_eq_false h0,gB,Bool.and_true,show(false==true)=false from rfl,cond_false,Option.bind_some,Bool.false_and]
 unfold lg
 rw [uy (by omega),cond_true,av (by omega),e2,wr (by omega)]
 cases t.allowed.any (xI p t l (at' l i))<;>rfl
theorem Wd (hv: ∀y∈l,VS p y):aB (lJ p t l) FUEL 0=some (bif l.any (fun y=>t.allowed.any (xI p t l y))then .ret 7 else .brk ()):=by
 obtain⟨_,_,⟨al,ax⟩,_⟩:=eO ht
 have hroom: ∀x∈l,Hw x:=fun x hx=>VS.room hp (hv x hx)
 rw [←jI l fun y=>t.allowed.any (xI p t l y)]
 refine bX l.length (fun i=>t.allowed.any (xI p t l (at' l i))) 7 (by omega) (fun i hi=> ?_) (by unfold lJ;simp)
 have hvi:=hv _ (at_mem hi)
 have e2:aB (lC p t l (i:Int)) FUEL 0=some (bif t.allowed.any (xI p t l (at' l i))then .ret (.done (.ret 7))else .brk ()):=by
  rw [←jI t.allowed (xI p t l (at' l i))]
  refine bX t.allowed.length (fun k=>xI p t l (at' l i) (at' t.allowed k)) (bD.done (Ex.ret (7:Int)):bD Int (Ex Unit Int)) (by omega) (fun k hk'=> ?_) (by unfold lC;simp)
  unfold lC xI
  simp only [Int.toNat_natCast]
  rw [uy (by omega),cond_true,BX hp hvi,Option.bind_some,av ⟨by omega,by omega⟩,wr (by omega)]
  by_cases h0:Fp p (at' l i) (at' t.allowed k)=0
  ·have e:Gn p (at' l i) (at' t.allowed k)=(gF (at' l i) (at' t.allowed k),0):=by unfold Gn;rw [if_pos h0]
   have en:nextR p (at' l i) t (at' t.allowed k)=(gF (at' l i) (at' t.allowed k),vU p (gF (at' l i) (at' t.allowed k)) t):=by unfold nextR;rw [if_pos h0]
   have ha:=VS.YS hp hvi (qG h0).1
   rw [e,en]
   simp only [decide_true,gB,Bool.and_true,beq_self_eq_true,cond_true]
   rw [jT (VP.small hp) _ hst,rG hp ha ht,Option.bind_some]
   obtain⟨ri,ri1,ri2⟩:=EO (l:=l) (by omega) hroom (gF (at' l i) (at' t.allowed k))
   by_cases h2:vU p (gF (at' l i) (at' t.allowed k)) t=0
   ·simp only [h2,decide_true,cond_true,beq_self_eq_true,Bool.true_and]
    rw [ri1,Option.bind_some]
    have:decide (ri<0)= !decide (gF (at' l i) (at' t.allowed k)∈l):=by
     rw [Bool.eq_iff_iff,decide_eq_true_iff,Bool.not_eq_true',decide_eq_false_iff_not,←ri2];omega
    rw [this]
    exact eD _ _ _
   ·simp only [decide_eq_false h2,cond_false,show(false==true)=false from rfl,Option.bind_some,Bool.false_and]
  ·have e:Gn p (at' l i) (at' t.allowed k)=(fG,Fp p (at' l i) (at' t.allowed k)):=by unfold Gn;rw [if_neg h0]
   have en:nextR p (at' l i) t (at' t.allowed k)=(fG,Fp p (at' l i) (at' t.allowed k)):=by unfold nextR;rw [if_neg h0]
   rw [e,en]
   simp only [decide_eq_false h0,gB,Bool.and_true,show(false==true)=false from rfl,cond_false,Option.bind_some,Bool.false_and]
 unfold lJ
 rw [uy (by omega),cond_true,e2,wr (by omega)]
 cases t.allowed.any (xI p t l (at' l i))<;>rfl
theorem VG:aB (lq p t l) FUEL 0=some (bif l.any (yU p t)then .ret 7 else .brk ()):=by
 obtain⟨_,_,_,⟨gl,gx⟩⟩:=eO ht
 rw [←jI l (yU p t)]
 refine bX l.length (fun i=>yU p t (at' l i)) 7 (by omega) (fun i hi=> ?_) (by unfold lq;simp)
 unfold lq
 simp only [Int.toNat_natCast]
 rw [uy (by omega),cond_true,jT (VP.small hp) _ hst,Option.bind_some,wr (by omega)]
 unfold yU
 by_cases h0:mq p (at' l i) t=0
 ·obtain⟨_,hv,_,_⟩:=jL h0
  simp only [h0,decide_true,Bool.not_true,gB,Bool.and_true,show(false==false)=true from rfl,cond_true,cond_false,Bool.false_or]
  rw [Cq hv (by omega) gx,Option.bind_some,av ⟨by omega,fun _=>by omega⟩]
  exact eD _ _ _
 ·simp only [decide_eq_false h0,Bool.not_false,gB,Bool.and_true,show(true==false)=false from rfl,cond_false,cond_true,Option.bind_some,Bool.true_or]
  rw [av ⟨by omega,fun _=>by omega⟩]
end
theorem OE {p:au} (hp:Small p) (s:State) {t:Task} (hst:jK t) (l:List State):jG p s t l=some (D8 p s t l):=by
 unfold jG D8
 rw [qy hp s hst,Option.bind_some]
 by_cases h:mq p s t=0
 ·obtain⟨h1,h2,h3,h4⟩:=jL h
  rw [if_neg (by simp [h]),h]
  simp only [decide_true,Bool.not_true,cond_false]
  by_cases hl:20000<l.length
  ·rw [if_pos hl,decide_eq_true (show(20000:Int)<(l.length:Int) by omega),cond_true]
  ·rw [if_neg hl,decide_eq_false (show ¬ (20000:Int)<(l.length:Int) by omega),cond_false]
   obtain⟨m,hm1,hm2⟩:=Uv h1 h3 hst (l:=l) (by omega) l.length 0 ⟨[],[]⟩ (by omega) (by simp) (by rw [List.take_zero];exact Kn.nil)
   rw [List.drop_zero]at hm2
   rcases hm2 with⟨ha,hr⟩|⟨ha,x',hk,hr⟩
   ·rw [ha,show aB (dh p t l) FUEL ([],[],0)=_ from dN hr (by unfold FUEL;omega)];rfl
   ·rw [ha,show aB (dh p t l) FUEL ([],[],0)=_ from dN hr (by unfold FUEL;omega)]
    simp only [Option.bind_some,cond_false]
    rw [List.any_eq_false]at ha
    have hv: ∀y∈l,VS p y:=fun y hy=>(jL (FY (by simpa using ha y hy)).1).2.1
    rw [Eg,Option.bind_some,hk.has h2]
    cases decide (s∈l)with
    |false=>rfl
    |true=>
     simp only [Bool.not_true,cond_false]
     rw [Y2 h1 h3 hst (by omega) hk hv]
     cases l.any (fun y=>t.allowed.any (xI p t l y))<;>rfl
 ·rw [if_pos h];simp [h]
theorem Jc {p:au} (hp:Small p) (s:State) {t:Task} (hst:jK t) (l:List State):tN p s t l=some (D8 p s t l):=by
 unfold tN D8
 rw [jT hp s hst,Option.bind_some]
 by_cases h:mq p s t=0
 ·obtain⟨h1,h2,h3,h4⟩:=jL h
  rw [if_neg (by simp [h]),h]
  simp only [decide_true,Bool.not_true,cond_false]
  by_cases hl:20000<l.length
  ·rw [if_pos hl,decide_eq_true (show(20000:Int)<(l.length:Int) by omega),cond_true]
  ·rw [if_neg hl,decide_eq_false (show ¬ (20000:Int)<(l.length:Int) by omega),cond_false,VG h1 h3 hst (by omega)]
   cases ha:l.any (yU p t)with
   |true=>rfl
   |false=>
    simp only [Option.bind_some,cond_false]
    rw [List.any_eq_false]at ha
    have hv: ∀y∈l,VS p y:=fun y hy=>(jL (FY (by simpa using ha y hy)).1).2.1
    obtain⟨ri,ri1,ri2⟩:=EO (l:=l) (by omega) (fun x hx=>VS.room h1 (hv x hx)) s
    rw [ri1,Option.bind_some]
    have:decide (ri<0)= !decide (s∈l):=by
     rw [Bool.eq_iff_iff,decide_eq_true_iff,Bool.not_eq_true',decide_eq_false_iff_not,←ri2];omega
    rw [this]
    cases decide (s∈l)with
    |false=>rfl
    |true=>
     simp only [Bool.not_true,cond_false]
     rw [Wd h1 h3 hst (by omega) hv]
     cases l.any (fun y=>t.allowed.any (xI p t l y))<;>rfl
 ·rw [if_pos h];simp [h]
def Dx:au:=⟨3,[⟨0,1,500,0,20⟩],[⟨0,1,3,400,10,[]⟩,⟨1,2,2,400,10,[]⟩],[⟨⟨2, -1⟩,100,1⟩]⟩
def Av:State:=⟨[true,true],List.replicate 2 false,List.replicate 2 false,[true],List.replicate 1 false,List.replicate 3 false,List.replicate 3 false⟩
def Zl:Task:=⟨[],[],[⟨1,0⟩,⟨2,0⟩,⟨1,1⟩,⟨2,1⟩],[⟨1,1⟩]⟩
def exU:Task:=⟨[0],[],[⟨1,0⟩,⟨2,0⟩,⟨1,1⟩,⟨2,1⟩],[⟨1,1⟩]⟩
theorem fA:Small Dx:=⟨by decide,by decide,by decide,fun x hx=>by
 simp only [Dx,List.mem_cons,List.not_mem_nil,or_false]at hx
 rcases hx with rfl|rfl<;>decide⟩
theorem Hf:jK Zl:=⟨by decide,by decide,by decide,by decide⟩
theorem zB:jK exU:=⟨by decide,by decide,by decide,by decide⟩
theorem YF:qY=some (Dx,Av):=by kernel_rfl
theorem ex1:rO Dx Av Zl 100=some ([⟨1,0⟩,⟨1,1⟩],[],0):=by kernel_rfl
theorem ex2:rO Dx Av exU 100=some ([],[Av],4):=by kernel_rfl
theorem ex3:tN Dx Av exU [Av]=some 0:=by kernel_rfl
theorem Z5:fT Dx Av Zl 100=some ([⟨1,0⟩,⟨1,1⟩],[],0):=(Nt fA Av Hf 100).trans ((El fA Av Hf 100).symm.trans ex1)
theorem Z4:fT Dx Av exU 100=some ([],[Av],4):=(Nt fA Av zB 100).trans ((El fA Av zB 100).symm.trans ex2)
theorem aaR:jG Dx Av exU [Av]=some 0:=(OE fA Av zB [Av]).trans ((Jc fA Av zB [Av]).symm.trans ex3)
theorem ex4:kr Dx Av ⟨1,1⟩=some (fG,44):=by kernel_rfl
def exR:State:=⟨[false,false],List.replicate 2 false,List.replicate 2 false,[true],List.replicate 1 false,List.replicate 3 false,List.replicate 3 false⟩
def L9:State:=⟨[false,false],[false,true],List.replicate 2 false,[true],List.replicate 1 false,[false,false,true],List.replicate 3 false⟩
theorem ex5:oz Dx Av ⟨[],[],[],[]⟩ [⟨1,0⟩,⟨1,1⟩]=some (2,exR,0):=by kernel_rfl
theorem ex6:kr Dx L9 ⟨2,1⟩=some (fG,43):=by kernel_rfl
theorem ex7:oz Dx L9 ⟨[],[2],[],[]⟩ [⟨6,1⟩]=some (0,fG,45):=by kernel_rfl
theorem ex8:dA Dx L9 ⟨[],[2],[],[]⟩=some 0:=by kernel_rfl
theorem ex9:iN [⟨1,0⟩,⟨1,1⟩] [⟨1,0⟩,⟨1,1⟩]=some true:=by kernel_rfl
theorem Zw:bT exR.closed [false,false]=some true:=by kernel_rfl
theorem AQ {α:Type} {c:Bool} {a b:α} (h:c=false):(bif c then a else b)=b:=by rw [h];rfl
theorem DJ {α:Type} {c:Bool} {a b:α} (h:c=true):(bif c then a else b)=a:=by rw [h];rfl
theorem Kh:jK ⟨[],[],[],[]⟩:=⟨by decide,by decide,by decide,by decide⟩
theorem BV:jK ⟨[],[2],[],[]⟩:=⟨by decide,by decide,by decide,by decide⟩
theorem ZR:jX Dx Av ⟨1,1⟩=some (fG,44):=(UJ fA Av _).trans ((Ky fA Av _).symm.trans ex4)
theorem ZF:cO Dx Av ⟨[],[],[],[]⟩ [⟨1,0⟩,⟨1,1⟩]=some (2,exR,0):=(rT fA Av Kh _).trans ((BF fA Av Kh _).symm.trans ex5)
theorem Zt:jX Dx L9 ⟨2,1⟩=some (fG,43):=(UJ fA L9 _).trans ((Ky fA L9 _).symm.trans ex6)
theorem Z8:cO Dx L9 ⟨[],[2],[],[]⟩ [⟨6,1⟩]=some (0,fG,45):=(rT fA L9 BV _).trans ((BF fA L9 BV _).symm.trans ex7)
theorem ZJ:eG Dx L9 ⟨[],[2],[],[]⟩=some 0:=(qy fA L9 BV).trans ((jT fA L9 BV).symm.trans ex8)
theorem tX:nC=some true:=by
 unfold nC
 rw [YF,Option.bind_some]
 dsimp only
 rw [show fT Dx Av (⟨([]:List Int),([]:List Int),[(⟨1,0⟩:af),(⟨2,0⟩:af),(⟨1,1⟩:af),(⟨2,1⟩:af)],[(⟨1,1⟩:af)]⟩:Task) 100=_ from Z5,Option.bind_some,ZR,Option.bind_some,AQ (by rfl),ex9,Option.bind_some,AQ (by rfl),ZF,Option.bind_some,AQ (by rfl),Zw,Option.bind_some,AQ (by rfl),
  show fT Dx Av (⟨[0],([]:List Int),[(⟨1,0⟩:af),(⟨2,0⟩:af),(⟨1,1⟩:af),(⟨2,1⟩:af)],[(⟨1,1⟩:af)]⟩:Task) 100=_ from Z4,Option.bind_some,AQ (by rfl),
  show jG Dx Av (⟨[0],([]:List Int),[(⟨1,0⟩:af),(⟨2,0⟩:af),(⟨1,1⟩:af),(⟨2,1⟩:af)],[(⟨1,1⟩:af)]⟩:Task) [Av]=_ from aaR,Option.bind_some,AQ (by rfl),av (by decide)]
 change Option.bind (jX Dx L9 ⟨2,1⟩) _=_
 rw [Zt,Option.bind_some]
 change Option.bind (cO Dx L9 ⟨[],[2],[],[]⟩ [⟨6,1⟩]) _=_
 rw [Z8,Option.bind_some,DJ (by rfl)]
 change Option.bind (eG Dx L9 ⟨[],[2],[],[]⟩) _=_
 rw [ZJ,Option.bind_some]
 rfl
theorem Fv (l:List af) (h:l.length≤9223372036854775807):iN l l=some true:=by
 unfold iN
 rw [decide_eq_true rfl]
 simp only [Bool.not_true,cond_false]
 have key:aB (ko l l) FUEL 0=some (.brk ()):= ?_
 ·rw [key];rfl
 refine Py l h (fun i hi=> ?_) (by unfold ko;simp)
 unfold ko
 simp only [Int.toNat_natCast]
 rw [uy (by omega),cond_true,av (by omega),wr (by omega)]
 simp
def TW (p:au) (t:Task):Bool:=(bif (bif (bif (bif (bif (bif (decide (60<(p.sources.length:Int)))then true else(decide (60<(p.links.length:Int))))then true else(decide (60<(p.racks.length:Int))))then true else(decide (60<(t.fed.length:Int))))then true else(decide (60<(t.crew.length:Int))))then true else(decide (60<(t.allowed.length:Int))))then true else(decide (60<(t.goal.length:Int))))
theorem UY (p:au) (t:Task):yO p t=some (TW p t):=rfl
structure IJ (t:Task):Prop where
 f:t.fed.length≤60
 c:t.crew.length≤60
 a:t.allowed.length≤60
 g:t.goal.length≤60
structure Vn (p:au):Prop where
 s:p.sources.length≤60
 l:p.links.length≤60
 r:p.racks.length≤60
theorem MR {p:au} {t:Task} (h:TW p t=false):Vn p∧IJ t:=by
 unfold TW at h
 simp only [eF,Bool.or_eq_false_iff,decide_eq_false_iff_not]at h
 obtain⟨⟨⟨⟨⟨⟨h1,h2⟩,h3⟩,h4⟩,h5⟩,h6⟩,h7⟩:=h
 exact⟨⟨by omega,by omega,by omega⟩,⟨by omega,by omega,by omega,by omega⟩⟩
theorem IJ.small {t:Task} (h:IJ t):jK t:=by
 obtain⟨h1,h2,h3,h4⟩:=h
 exact⟨by omega,by omega,by omega,by omega⟩
theorem DT (x:af): ∃y,iT x=some y:=by
 unfold iT
 by_cases h:x.deed<1∨8<x.deed
 ·refine⟨x, ?_⟩
  rw [eF]
  have:(decide (x.deed<1)||decide (8<x.deed))=true:=by rw [Bool.or_eq_true,decide_eq_true_iff,decide_eq_true_iff];exact h
  rw [this];rfl
 ·rw [eF]
  have:(decide (x.deed<1)||decide (8<x.deed))=false:=by
   rw [Bool.or_eq_false_iff,decide_eq_false_iff_not,decide_eq_false_iff_not];exact⟨fun q=>h (.inl q),fun q=>h (.inr q)⟩
  rw [this,cond_false,av ⟨by omega,by show x.deed<((9:Nat):Int);omega⟩]
  exact⟨_,rfl⟩
end Sg

namespace Sg
open Go Go.ChangeShapes Go.WideShapes Go.RowKit Go.Deep
end Sg

namespace Sg
open Go Go.ChangeShapes Go.WideShapes Go.RowKit Go.Deep
structure Rz (P:Program) (t:TypeId) (n:Nat) {α:Type} (c:α→Nat→DV) (S:α→Prop):Prop where
 size:P.cellsOf t=n
 rd: ∀{H:Type} {enc:TypeId × Value→H} {w:World} {fuel:Nat} {cs:List Value} {x:DataW H × List MemPlace},DataW.trod enc P w 0 (fun _=>true) true fuel t cs=some x→(∀q∈x.1.weights P t,q≤reachBytes)→
  ∃a:α,S a∧cs.length=n∧ ∀j,j<n→ ∃u,cs[j]? =some u∧cu (zL w) w (c a j) u
section
variable {P:Program} {t e:TypeId}
theorem Rd.z {n:Nat} {α:Type} {c:α→Nat→DV} {S:α→Prop} (h:Rd P t n c S):Rz P t n c S:=⟨h.size,fun h1 _=>h.rd h1⟩
theorem oM {H:Type}: ∀{l:List (DataW H)} {d:DataW H} {q:Nat},d∈l→q∈d.weights P e→q∈DataW.weightsAll P e l
 |[],_,_,h,_=>by cases h
 |d::r,d',q,h,hq=>by
  unfold DataW.weightsAll
  rw [List.mem_append]
  rcases List.mem_cons.1 h with rfl|h
  ·exact .inl hq
  ·exact .inr (oM h hq)
open Classical in
theorem Rz.slice {n b:Nat} {α:Type} [Inhabited α] {c:α→Nat→DV} {S:α→Prop} (ht:P.underlying t=some (.slice e)) (hs:P.cellsOf t=1) (hn:0<n) (hb:P.bytesOf e=b) (he:Rz P e n c S):Rz P t 1 (Tj n c) (fun l=>l.length≤9223372036854775807∧(∀x∈l,S x)∧l.length*b≤140737488351232):=by
 refine⟨hs,fun{H enc w fuel cs x} h hz=> ?_⟩
 rcases open_slice ht h with⟨rfl,_⟩|⟨a,len,cap,m,fu,D,Pl,rfl,hbl,hl,hm,hmm,hxx,hx⟩
 ·refine⟨[],⟨by simp,by simp,by simp⟩,rfl,fun j hj=> ?_⟩
  have:j=0:=by omega
  subst this
  exact⟨_,rfl,none,0,rfl,by simp,by simp,by simp,Nat.le_refl _,by simp⟩
 ·simp only [if_true]at hmm
  subst hmm
  have hwt:x.1.weights P t=(((List.range len).map D).length+((List.range (m - len)).map fun j=>D (len+j)).length)*P.bytesOf e::(DataW.weightsAll P e ((List.range len).map D)++DataW.weightsAll P e ((List.range (m - len)).map fun j=>D (len+j))):=by
   rw [hxx];simp only [DataW.weights,ht]
  rw [hwt]at hz
  have hzi: ∀i,i<m→ ∀q∈(D i).weights P e,q≤reachBytes:=fun i hi q hq=>by
   refine hz q (List.mem_cons_of_mem _ (List.mem_append.2 ?_))
   by_cases h1:i<len
   ·exact .inl (oM (List.mem_map.2 ⟨i,List.mem_range.2 h1,rfl⟩) hq)
   ·exact .inr (oM (List.mem_map.2 ⟨i - len,List.mem_range.2 (by omega),by rw [show len+(i - len)=i by omega]⟩) hq)
  have hz0:len*b≤140737488351232:=by
   have:=hz _ List.mem_cons_self
   rw [List.length_map,List.length_map,List.length_range,List.length_range,hb,show len+(m - len)=m by omega]at this
   have h2:len*b≤m*b:=Nat.mul_le_mul_right _ hl
   have h3:reachBytes=140737488351232:=by decide
   omega
  have hel: ∀i,i<m→ ∃y:α,S y∧ ∀j,j<n→a.spot=none∧ ∃u,w.cell? ⟨a.block,a.off+(i*n+j),none⟩=some u∧cu (zL w) w (c y j) u:=by
   intro i hi
   obtain⟨cs',h1,h2⟩:=hx i hi
   rw [he.size]at h1
   obtain⟨y,hy,hlen,hc⟩:=he.rd h2 (hzi i hi)
   obtain⟨_,hcl,hat⟩:=World.cells?_some h1
   obtain⟨cs0,h10,h20⟩:=hx 0 (by omega)
   rw [he.size]at h10
   obtain⟨y0,_,hlen0,hc0⟩:=he.rd h20 (hzi 0 (by omega))
   obtain⟨_,_,hat0⟩:=World.cells?_some h10
   obtain⟨u0,hu0,_⟩:=hc0 0 hn
   have hsp:a.spot=none:=by
    have:=(hat0 0 hn).trans hu0
    simp only [Nat.zero_mul]at this
    have h3:=cell_spot this
    simpa [Addr.add]using h3
   refine⟨y,hy,fun j hj=> ⟨hsp, ?_⟩⟩
   obtain⟨u,hu,hr⟩:=hc j hj
   refine⟨u, ?_,hr⟩
   have:=(hat j hj).trans hu
   rw [qa hsp,qa rfl]at this
   rw [←this];simp only [Nat.add_assoc]
  let pick:Nat→α:=fun i=>if h:i<m then Classical.choose (hel i h)else default
  have hpick: ∀i,i<m→S (pick i)∧ ∀j,j<n→a.spot=none∧ ∃u,w.cell? ⟨a.block,a.off+(i*n+j),none⟩=some u∧cu (zL w) w (c (pick i) j) u:=by
   intro i hi
   show S (dite _ _ _)∧_
   simp only [pick,dif_pos hi]
   exact Classical.choose_spec (hel i hi)
  let l:List α:=(List.range len).map pick
  have hll:l.length=len:=by simp [l]
  have hat: ∀i,i<len→at' l i=pick i:=fun i hi=>by simp [at',l,hi]
  refine⟨l,⟨by rw [hll];exact Nat.le_trans (Nat.le_trans hl hm) (by decide),fun x hx=> ?_,by rw [hll];exact hz0⟩,rfl,fun j hj=> ?_⟩
  ·obtain⟨i,hi,rfl⟩:=List.mem_map.mp hx
   exact(hpick i (Nat.lt_of_lt_of_le (List.mem_range.mp hi) hl)).1
  ·have:j=0:=by omega
   subst this
   refine⟨_,rfl,some a,m, ?_,by simp,by simp,by simp,by rw [hll];exact hl,fun ad ha=> ?_⟩
   ·simp [hll]
   ·cases ha
    refine⟨fun h0=> ?_,fun i hi j hj=> ?_⟩
    ·exact((hpick 0 (by omega)).2 0 hn).1
    ·rw [hll]at hi
     obtain⟨_,u,hu,hr⟩:=(hpick i (by omega)).2 j hj
     exact⟨Ny hu,u,hu,by show cu _ _ (c (at' l i) j) u;rw [hat i hi];exact hr⟩
theorem Rz.fields {fs:Array Field} {n:Nat} (ht:P.underlying t=some (.struct fs)) (hs:P.cellsOf t=n) {H:Type} {enc:TypeId × Value→H} {w:World} {fuel:Nat} {cs:List Value} {x:DataW H × List MemPlace}
  (h:DataW.trod enc P w 0 (fun _=>true) true fuel t cs=some x) (hz: ∀q∈x.1.weights P t,q≤reachBytes):cs.length=n∧ ∀(i:Nat) (f:Field),fs[i]? =some f→ ∃y,DataW.trod enc P w 0 (fun _=>true) true (fuel - 1) f.type ((cs.drop f.offset).take (P.cellsOf f.type))=some y∧ ∀q∈y.1.weights P f.type,q≤reachBytes:=by
 obtain⟨xs,m,rfl,hx,hl,hxl,hf⟩:=DataW.trod_struct ht h
 have hd:x.1= .agg (xs.map (·.1)):=congrArg Prod.fst hx
 refine⟨by rw [hl,hs],fun i f hi=> ?_⟩
 have hlt:=(Array.getElem?_eq_some_iff.mp hi).1
 have h1:=hf i f hi
 rw [List.getElem?_eq_getElem (by omega)]at h1
 refine⟨_,h1,fun q hq=>hz q ?_⟩
 rw [hd]
 simp only [DataW.weights,ht]
 refine DataW.weights_mem_each (j:=i) (t:=f.type) (d:=(xs[i]'(by omega)).1) ?_ ?_ _ hq
 ·rw [List.getElem?_map];simp [hi]
 ·rw [List.getElem?_map,List.getElem?_eq_getElem (by omega)];rfl
theorem Rz.field {n off:Nat} {α:Type} {c:α→Nat→DV} {S:α→Prop} (he:Rz P e n c S) {H:Type} {enc:TypeId × Value→H} {w:World} {fuel:Nat} {cs:List Value}
  (h: ∃y,DataW.trod enc P w 0 (fun _=>true) true fuel e ((cs.drop off).take (P.cellsOf e))=some y∧ ∀q∈y.1.weights P e,q≤reachBytes): ∃a:α,S a∧ ∀j,j<n→ ∃u,cs[off+j]? =some u∧cu (zL w) w (c a j) u:=by
 obtain⟨y,hy,hz⟩:=h
 rw [he.size]at hy
 obtain⟨a,ha,hl,hc⟩:=he.rd hy hz
 exact⟨a,ha,Dp hc⟩
theorem Rz.elems {m n:Nat} (ht:P.underlying t=some (.array m e)) (hs:P.cellsOf t=n) {H:Type} {enc:TypeId × Value→H} {w:World} {fuel:Nat} {cs:List Value} {x:DataW H × List MemPlace}
  (h:DataW.trod enc P w 0 (fun _=>true) true fuel t cs=some x) (hz: ∀q∈x.1.weights P t,q≤reachBytes):cs.length=n∧ ∀(i:Nat),i<m→ ∃y,DataW.trod enc P w 0 (fun _=>true) true (fuel - 1) e ((cs.drop (i*P.cellsOf e)).take (P.cellsOf e))=some y∧ ∀q∈y.1.weights P e,q≤reachBytes:=by
 obtain⟨xs,q,rfl,hx,hl,hxl,hf⟩:=DataW.trod_array ht h
 have hd:x.1= .agg (xs.map (·.1)):=congrArg Prod.fst hx
 refine⟨by rw [hl,hs],fun i hi=> ?_⟩
 have h1:=hf i hi
 rw [List.getElem?_eq_getElem (by omega)]at h1
 refine⟨_,h1,fun q hq=>hz q ?_⟩
 rw [hd]
 simp only [DataW.weights,ht]
 exact oM (List.mem_map.2 ⟨_,List.getElem_mem _,rfl⟩) hq
theorem Rz.agg {n:Nat} {α:Type} {c:α→Nat→DV} {S:α→Prop} (hr:Rz P t n c S) {fs:Array Field} (ht:P.underlying t=some (.struct fs)) {W:World} {b0:Nat} {v:Value} (hv:Value.okWide P W .any b0 t v)
  {H:Type} {enc:TypeId × Value→H} {d:DataW H} {ps:List MemPlace} (h:DataW.Trod enc P W 0 (fun _=>true) true t v d ps) (hz: ∀q∈d.weights P t,q≤reachBytes):
  ∃a:α,S a∧gK (fun _=>none) (zL W) W (.agg ((List.range n).map fun j=> .d (c a j))) v:=by
 obtain⟨cs,rfl,hsz⟩:=okWide_struct ht hv
 obtain⟨fuel,hf⟩:=h
 obtain⟨a,ha,hl,hc⟩:=hr.rd hf hz
 refine⟨a,ha,cs.toList,by simp,bS.oP (by rw [List.length_map,List.length_range];exact hl) fun j x hx=> ?_⟩
 have hj:j<n:=by
  have:=(List.getElem?_eq_some_iff.mp hx).1
  simpa using this
 obtain⟨u,hu,hru⟩:=hc j hj
 refine⟨u,hu, ?_⟩
 simp [hj]at hx
 subst hx
 exact hru
theorem Rz.one {α:Type} {c:α→Nat→DV} {S:α→Prop} (hr:Rz P t 1 c S) {W:World} {v:Value} (hv:v.cells.toList=[v])
  {H:Type} {enc:TypeId × Value→H} {d:DataW H} {ps:List MemPlace} (h:DataW.Trod enc P W 0 (fun _=>true) true t v d ps) (hz: ∀q∈d.weights P t,q≤reachBytes): ∃a:α,S a∧gK (fun _=>none) (zL W) W (.one (.d (c a 0))) v:=by
 obtain⟨fuel,hf⟩:=h
 rw [hv]at hf
 obtain⟨a,ha,hl,hc⟩:=hr.rd hf hz
 obtain⟨u,hu,hru⟩:=hc 0 (by omega)
 simp at hu;subst hu
 exact⟨a,ha,hru⟩
end
noncomputable def pY (x:af):af:=(iT x).getD default
theorem N7 (x:af):iT x=some (pY x):=by
 obtain⟨y,hy⟩:=DT x
 unfold pY;rw [hy];rfl
noncomputable def KV (l:List af) (k:Nat):List af:=tab k fun i=>pY (at' l (l.length - 1 - i))
theorem O8 {α:Type} [Inhabited α] (n:Nat) (f:Nat→α):tab (n+1) f=tab n f++[f n]:=by
 refine kX (by simp [aM]) fun i hi=> ?_
 rw [aM]at hi
 rw [gy hi]
 by_cases h:i<n
 ·rw [uL (by rw [aM];exact h),gy h]
 ·have:i=n:=by omega
  subst this
  have:=xg (tab i f) (f i)
  rw [aM]at this;rw [this]
theorem rev_eq (l:List af) (hl:l.length≤1000):iO l=some (KV l l.length):=by
 have key:aB (dQ l) FUEL (KV l 0,(l.length:Int) - 1 - ((0:Nat):Int))=some (.brk (KV l l.length)):=by
  refine dP (body:=dQ l) (fun k=>(KV l k,(l.length:Int) - 1 - (k:Int))) l.length _ (fuel_lt (by omega)) (fun k hk=> ?_) ?_
  ·unfold dQ l8
   simp only
   have hlen:(KV l k).length=k:=aM _ _
   rw [decide_eq_true (show(0:Int)≤(l.length:Int) - 1 - (k:Int) by omega),cond_true,Mh,N7,Option.bind_some,av ⟨by rw [hlen,List.length_singleton];omega,by rw [hlen,List.length_singleton];omega⟩,Option.bind_some,av (by omega),wr (by omega),show((l.length:Int) - 1 - (k:Int)).toNat=l.length - 1 - k by omega]
   unfold KV
   rw [O8,show(l.length:Int) - 1 - (k:Int) - 1=(l.length:Int) - 1 - ((k+1:Nat):Int) by omega]
  ·unfold dQ
   simp only
   rw [decide_eq_false (show ¬ (0:Int)≤(l.length:Int) - 1 - (l.length:Int) by omega),cond_false]
 unfold iO gJ
 rw [Option.bind_some]
 unfold gQ
 rw [wr (by omega)]
 have e:(l.length:Int) - 1 - ((0:Nat):Int)=(l.length:Int) - 1:=by omega
 rw [e]at key
 rw [show aB (dQ l) FUEL ([],(l.length:Int) - 1)=_ from key];rfl
def okD (x:af):Prop:=1≤x.deed∧x.deed≤8
theorem rV {x:af} (h:okD x):(x.deed=1∧pY x=⟨2,x.index⟩)∨(x.deed=2∧pY x=⟨1,x.index⟩)∨(x.deed=3∧pY x=⟨4,x.index⟩)∨(x.deed=4∧pY x=⟨3,x.index⟩)∨
  (x.deed=5∧pY x=⟨6,x.index⟩)∨(x.deed=6∧pY x=⟨5,x.index⟩)∨(x.deed=7∧pY x=⟨8,x.index⟩)∨(x.deed=8∧pY x=⟨7,x.index⟩):=by
 unfold okD at h
 obtain⟨d,i⟩:=x
 simp only at h ⊢
 have:d=1∨d=2∨d=3∨d=4∨d=5∨d=6∨d=7∨d=8:=by omega
 rcases this with rfl|rfl|rfl|rfl|rfl|rfl|rfl|rfl
 ·exact .inl ⟨rfl,rfl⟩
 ·exact .inr (.inl ⟨rfl,rfl⟩)
 ·exact .inr (.inr (.inl ⟨rfl,rfl⟩))
 ·exact .inr (.inr (.inr (.inl ⟨rfl,rfl⟩)))
 ·exact .inr (.inr (.inr (.inr (.inl ⟨rfl,rfl⟩))))
 ·exact .inr (.inr (.inr (.inr (.inr (.inl ⟨rfl,rfl⟩)))))
 ·exact .inr (.inr (.inr (.inr (.inr (.inr (.inl ⟨rfl,rfl⟩))))))
 ·exact .inr (.inr (.inr (.inr (.inr (.inr (.inr ⟨rfl,rfl⟩))))))
theorem inv_inv {x:af} (h:okD x):pY (pY x)=x∧okD (pY x):=by
 obtain⟨d,i⟩:=x
 rcases rV h with⟨e,q⟩|⟨e,q⟩|⟨e,q⟩|⟨e,q⟩|⟨e,q⟩|⟨e,q⟩|⟨e,q⟩|⟨e,q⟩
 all_goals
  simp only at e
  subst e
  rw [q]
  exact⟨rfl,by unfold okD;simp⟩
theorem MO {p:au} {s:State} (hs:VS p s) {x:af} (h:iA p x=true):okD x:=by
 obtain⟨_,_,_,_,h5⟩:=vQ hs h
 exact h5
theorem Oq {p:au} {x:af} (h:okD x):iA p (pY x)=iA p x:=by
 rcases rV h with⟨e,q⟩|⟨e,q⟩|⟨e,q⟩|⟨e,q⟩|⟨e,q⟩|⟨e,q⟩|⟨e,q⟩|⟨e,q⟩<;>rw [q]<;>unfold iA<;>simp [e]
theorem JI {l:List Bool} {i:Nat} {a b:Bool} (h:at' l i=b):(l.set i a).set i b=l:=by
 rw [List.set_set]
 refine kX (by simp) fun j hj=> ?_
 rw [List.length_set]at hj
 by_cases e:i=j
 ·subst e;rw [aV hj,h]
 ·rw [bG e]
section
variable {p:au} {s:State} (hs:VS p s) {x:af} (hx:iA p x=true) (hh:holdB s x=false)
include hs hx hh
theorem QT:gF (gF s x) (pY x)=s:=by
 unfold holdB at hh
 rcases rV (MO hs hx)with⟨e,q⟩|⟨e,q⟩|⟨e,q⟩|⟨e,q⟩|⟨e,q⟩|⟨e,q⟩|⟨e,q⟩|⟨e,q⟩
 all_goals
  simp [e]at hh
  rw [q]
  unfold gF
  simp [e]
 all_goals first|exact JI hh|(rw [←List.set_set (a:=(true:Bool)),JI hh])|skip
theorem OX:holdB (gF s x) (pY x)=false:=by
 obtain⟨h0,h1,h2,h3,h4,h5⟩:=vQ hs hx
 obtain⟨c1,c2,c3,c4,c5,c6,c7,c8⟩:=hs
 rcases rV ⟨h4,h5⟩with⟨e,q⟩|⟨e,q⟩|⟨e,q⟩|⟨e,q⟩|⟨e,q⟩|⟨e,q⟩|⟨e,q⟩|⟨e,q⟩
 ·have:=(h1 (by omega)).1
  rw [q];unfold holdB gF;simp [e];rw [aV (by omega)]
 ·have:=(h1 (by omega)).1
  rw [q];unfold holdB gF;simp [e];rw [aV (by omega)]
 ·have:=h2 (by omega)
  rw [q];unfold holdB gF;simp [e];rw [aV (by omega)]
 ·have:=h2 (by omega)
  rw [q];unfold holdB gF;simp [e];rw [aV (by omega)]
 ·have:=(h1 (by omega)).1
  rw [q];unfold holdB gF;simp [e];rw [aV (by omega)]
 ·have:=(h1 (by omega)).1
  rw [q];unfold holdB gF;simp [e];rw [aV (by omega)]
 ·have:=h3 (by omega)
  rw [q];unfold holdB gF;simp [e];rw [aV (by omega)]
 ·have:=h3 (by omega)
  rw [q];unfold holdB gF;simp [e];rw [aV (by omega)]
end
theorem SS {s:State} {x:af} (h:swB x=true):jR (gF s x) x.index.toNat=jR s x.index.toNat:=by
 unfold swB at h
 unfold jR gF
 rw [h]
 simp only [cond_true,List.set_set]
theorem QF {p:au} {s:State} {x:af} (h:swB x=true):DU p (gF s x) x.index.toNat=DU p s x.index.toNat:=by
 unfold DU
 rw [SS h]
 have:(gF s x).badBus=s.badBus:=by
  unfold swB at h;unfold gF;rw [h];rfl
 rw [this]
theorem UZ {x:af} (h:okD x):swB (pY x)=swB x∧(pY x).index=x.index:=by
 rcases rV h with⟨e,q⟩|⟨e,q⟩|⟨e,q⟩|⟨e,q⟩|⟨e,q⟩|⟨e,q⟩|⟨e,q⟩|⟨e,q⟩<;>rw [q]<;>unfold swB<;>simp [e]
theorem Uf {s:State} {x:af} (h:okD x):Gt (gF s x) (pY x)=Gt s x:=by
 rcases rV h with⟨e,q⟩|⟨e,q⟩|⟨e,q⟩|⟨e,q⟩|⟨e,q⟩|⟨e,q⟩|⟨e,q⟩|⟨e,q⟩<;>rw [q]<;>unfold Gt swB gF<;>simp [e]
theorem RZ {p:au} {s:State} (hs:VS p s) {x:af} (h:Fp p s x=0):Fp p (gF s x) (pY x)=0:=by
 obtain⟨h1,h2⟩:=qG h
 have ho:=MO hs h1
 obtain⟨q1,q2⟩:=UZ ho
 unfold Fp at h ⊢
 rw [Oq ho,h1,OX hs h1 h2,Uf ho,q1,q2]
 rw [h1,h2]at h
 simp only [Bool.not_true,cond_false]at h ⊢
 cases hsw:swB x with
 |false=>rw [hsw]at h;simpa using h
 |true=>
  rw [hsw]at h
  rw [QF hsw]
  have e:(gF s x).locked=s.locked:=by unfold swB at hsw;unfold gF;rw [hsw];rfl
  rw [e];exact h
theorem Ol {p:au} {s:State} (hp:VP p) (hs:VS p s) {t:Task} (hl:vU p s t=0) {x:af} (h:(nextR p s t x).2=0):nextR p (nextR p s t x).1 t (pY x)=(s,0):=by
 obtain⟨h1,h2,h3,h4⟩:=kM hp hs h
 obtain⟨h5,h6⟩:=qG h1
 rw [h2]
 unfold nextR
 rw [if_pos (RZ hs h1),QT hs h5 h6,hl]
noncomputable def qI (p:au) (t:Task):State→List af→Option State
 |s,[]=>some s
 |s,x::l=>if(nextR p s t x).2=0 then qI p t (nextR p s t x).1 l else none
theorem BD (p:au) (t:Task): ∀(l m:List af) (s:State),qI p t s (l++m)=(qI p t s l).bind fun u=>qI p t u m
 |[],m,s=>rfl
 |x::l,m,s=>by
  rw [List.cons_append,qI.eq_2,qI.eq_2]
  split
  ·exact BD p t l m _
  ·rfl
theorem IQ {p:au} (hp:VP p) {t:Task}: ∀(l:List af) (s u:State),VS p s→vU p s t=0→qI p t s l=some u→VS p u∧vU p u t=0
 |[],s,u,h1,h2,h=>by
  unfold qI at h;cases h;exact⟨h1,h2⟩
 |x::l,s,u,h1,h2,h=>by
  unfold qI at h
  split at h
  ·rename_i h0
   obtain⟨q1,q2,q3,q4⟩:=kM hp h1 h0
   exact IQ hp l _ u (by rw [q2];exact q3) (by rw [q2];exact q4) h
  ·cases h
theorem CS {p:au} (hp:VP p) {t:Task}: ∀(l:List af) (s u:State),VS p s→vU p s t=0→qI p t s l=some u→qI p t u (l.map pY).reverse=some s
 |[],s,u,h1,h2,h=>by
  unfold qI at h;cases h;rfl
 |x::l,s,u,h1,h2,h=>by
  unfold qI at h
  split at h
  ·rename_i h0
   obtain⟨q1,q2,q3,q4⟩:=kM hp h1 h0
   have:=CS hp l _ u (by rw [q2];exact q3) (by rw [q2];exact q4) h
   rw [List.map_cons,List.reverse_cons,BD,this,Option.bind_some]
   have hb:=Ol hp h1 h2 h0
   unfold qI
   rw [hb];rfl
  ·cases h
theorem EZ {p:au} (hp:VP p) {t:Task}: ∀(l:List af) (s u:State),VS p s→qI p t s l=some u→ ∀x∈l,okD x
 |[],s,u,h1,h=>by simp
 |x::l,s,u,h1,h=>by
  unfold qI at h
  split at h
  ·rename_i h0
   obtain⟨q1,q2,q3,q4⟩:=kM hp h1 h0
   intro y hy
   rcases List.mem_cons.1 hy with rfl|hy
   ·exact MO h1 (qG q1).1
   ·exact EZ hp l _ u (by rw [q2];exact q3) h y hy
  ·cases h
theorem LD {p:au} {t:Task} {l:List af}: ∀(n i:Nat) (s u:State),i+n=l.length→qI p t s (l.drop i)=some u→qW p t l s i n=((l.length:Int),u,0)
 |0,i,s,u,hi,h=>by
  rw [List.drop_eq_nil_of_le (by omega)]at h
  unfold qI at h;cases h
  unfold qW;rw [show i=l.length by omega]
 |n+1,i,s,u,hi,h=>by
  have hlt:i<l.length:=by omega
  rw [List.drop_eq_getElem_cons hlt,←eY hlt]at h
  unfold qI at h
  unfold qW
  split at h
  ·rename_i h0
   rw [if_pos h0];exact LD n (i+1) _ u (by omega) h
  ·cases h
theorem Ld {p:au} {s u:State} {t:Task} {l:List af} (h:mq p s t=0) (hl:l.length≤256) (hr:qI p t s l=some u):KD p s t l=((l.length:Int),u,0):=by
 unfold KD
 rw [if_neg (by simp [h]),if_neg (by omega)]
 exact LD l.length 0 s u (by omega) (by rw [List.drop_zero];exact hr)
theorem J9 {p:au} {s:State} {t:Task} {x:af} (h:mq p s t=0):KD p s t [x]=if(nextR p s t x).2=0 then(1,(nextR p s t x).1,0)else(0,fG,(nextR p s t x).2):=by
 unfold KD
 rw [if_neg (by simp [h]),if_neg (by simp)]
 rfl
theorem NG {α:Type} [Inhabited α] (l:List α) (i:Nat):FV l i 1=[at' l i]:=by
 unfold FV
 simp
theorem Lu (l:List af):KV l l.length=(l.map pY).reverse:=by
 unfold KV
 refine kX (by simp [aM]) fun i hi=> ?_
 rw [aM]at hi
 rw [gy hi,eY (l:=(l.map pY).reverse) (by simpa using hi),List.getElem_reverse,List.getElem_map,eY (by omega)]
 simp
theorem rev_rev {l:List af} (h: ∀x∈l,okD x):(((l.map pY).reverse).map pY).reverse=l:=by
 rw [List.map_reverse,List.reverse_reverse,List.map_map]
 conv=>rhs;rw [←List.map_id l]
 exact List.map_congr_left fun x hx=>(inv_inv (h x hx)).1
theorem SF (l:List af):j3 l=iO l:=by
 unfold j3 iO gJ
 rw [Option.bind_some,Option.bind_some]
structure Ur (t:Task):Prop where
 f:t.fed.length≤17592186043904
 c:t.crew.length≤17592186043904
 a:t.allowed.length≤8796093021952
 g:t.goal.length≤8796093021952
theorem PZ {t:Task} (h:Ur t):uG t=some t:=by
 obtain⟨h1,h2,h3,h4⟩:=h
 unfold uG oN gM
 rw [av (by omega),av (by omega),av (by omega),av (by omega)]
 rfl
theorem Lh (p:au) {t:Task} (h:IJ t): ∃b,oO p t=some b:=by
 obtain⟨h1,h2,_,_⟩:=h
 have k0:aB (lQ p t) FUEL 0=some (bif (List.range t.fed.length).any (fun i=>bif decide (at' t.fed i<0)then true else decide ((p.racks.length:Int)≤at' t.fed i))then .ret false else .brk ()):=by
  refine bX t.fed.length _ false (by omega) (fun i hi=> ?_) (by unfold lQ;simp)
  unfold lQ
  simp only [Int.toNat_natCast]
  rw [uy (by omega),cond_true,av ⟨by omega,fun _=>by omega⟩,wr (by omega)]
  exact eD _ _ _
 have k1:aB (lI p t) FUEL 0=some (bif (List.range t.crew.length).any (fun i=>bif decide (at' t.crew i<0)then true else decide (p.buses≤at' t.crew i))then .ret false else .brk ()):=by
  refine bX t.crew.length _ false (by omega) (fun i hi=> ?_) (by unfold lI;simp)
  unfold lI
  simp only [Int.toNat_natCast]
  rw [uy (by omega),cond_true,av ⟨by omega,fun _=>by omega⟩,wr (by omega)]
  exact eD _ _ _
 unfold oO
 rw [k0]
 generalize (List.range t.fed.length).any _=b0
 cases b0 with
 |true=>exact⟨false,rfl⟩
 |false=>
  simp only [cond_false,Option.bind_some]
  rw [k1]
  generalize (List.range t.crew.length).any _=b1
  cases b1 with
  |true=>exact⟨false,rfl⟩
  |false=>exact⟨true,rfl⟩
section
variable {p:au} (hp:VP p) {s:State} (hs:VS p s) {t:Task} (ht:ny p t=true) (hst:jK t) (h0:vU p s t=0) {l:List af} (hl:l.length≤40)
include hp hs ht hst h0 hl
theorem Pt {i:Nat} (hi:i<l.length) {pg:List af} {now:State} (hpg:pg.length≤i) (hr:qI p t s pg=some now) (hz:(nextR p now t (at' l i)).2=0):
  bU p s l t (pg,now.closed,now.locked,now.badLink,now.on_,now.badSource,now.earthed,now.badBus,(i:Int))=some (.next (pg++[at' l i],(nextR p now t (at' l i)).1.closed,(nextR p now t (at' l i)).1.locked,(nextR p now t (at' l i)).1.badLink,(nextR p now t (at' l i)).1.on_,(nextR p now t (at' l i)).1.badSource,(nextR p now t (at' l i)).1.earthed,(nextR p now t (at' l i)).1.badBus,((i+1:Nat):Int))):=by
 obtain⟨v1,v2⟩:=IQ hp pg s now hs h0 hr
 have hL:mq p now t=0:=by rw [rG hp v1 ht];exact v2
 have hLs:mq p s t=0:=by rw [rG hp hs ht];exact h0
 have hsm:=VP.small hp
 obtain⟨q1,q2,q3,q4⟩:=kM hp v1 hz
 have hrun:qI p t s (pg++[at' l i])=some (nextR p now t (at' l i)).1:=by
  rw [BD,hr,Option.bind_some,qI.eq_2,if_pos hz];rfl
 have hlen:(pg++[at' l i]).length≤41:=by rw [List.length_append,List.length_singleton];omega
 have hb:=CS hp _ s _ hs h0 hrun
 have hv':VS p (nextR p now t (at' l i)).1:=by rw [q2];exact q3
 have hL':mq p (nextR p now t (at' l i)).1 t=0:=by rw [rG hp hv' ht,q2];exact q4
 have hok:=EZ hp _ s _ hs hrun
 unfold bU
 simp only
 have hv1:cO p (⟨now.closed,now.locked,now.badLink,now.on_,now.badSource,now.earthed,now.badBus⟩:State) t (FV l (i:Int).toNat ((((i:Int)+1).toNat) - (i:Int).toNat))=some (1,(nextR p now t (at' l i)).1,0):=by
  rw [show(⟨now.closed,now.locked,now.badLink,now.on_,now.badSource,now.earthed,now.badBus⟩:State)=now from rfl,show(((i:Int)+1).toNat) - (i:Int).toNat=1 by omega,Int.toNat_natCast,NG,rT hsm now hst,J9 hL,if_pos hz]
 rw [uy (by omega),cond_true,wr (by omega),hv1,Option.bind_some,av (by omega)]
 simp only [Int.toNat_natCast]
 rw [AQ (by rfl),av ⟨by omega,by rw [List.length_singleton];omega,by rw [List.length_singleton];omega⟩,rT hsm s hst,Ld hLs (by omega) hrun,Option.bind_some]
 simp only
 rw [DJ (by simp [gB]),y8 _ (VS.room hp hv'),Option.bind_some,AQ (by simp),SF,rev_eq _ (by omega),Option.bind_some,Lu,rT hsm _ hst,
  Ld hL' (by rw [List.length_reverse,List.length_map];omega) hb,Option.bind_some]
 simp only [List.length_reverse,List.length_map]
 rw [DJ (by simp [gB]),y8 _ (VS.room hp hs),Option.bind_some,DJ (by simp [gB]),rev_eq _ (by rw [List.length_reverse,List.length_map];omega),Option.bind_some,Lu,rev_rev hok,DJ (by simp [gB]),Fv _ (by omega),Option.bind_some,AQ (by simp)]
 rfl
theorem Jm: ∀(n i:Nat) (pg:List af) (now:State),i+n=l.length→pg.length≤i→qI p t s pg=some now→
  ∃k,k≤n+1∧aB (bU p s l t) k (pg,now.closed,now.locked,now.badLink,now.on_,now.badSource,now.earthed,now.badBus,(i:Int))=some (.brk ())
 |0,i,pg,now,hi,hpg,hr=>by
  refine⟨1,by omega, ?_⟩
  rw [aF]
  unfold bU
  simp only
  rw [decide_eq_false (show ¬ (i:Int)<(l.length:Int) by omega),cond_false]
 |n+1,i,pg,now,hi,hpg,hr=>by
  obtain⟨v1,v2⟩:=IQ hp pg s now hs h0 hr
  have hL:mq p now t=0:=by rw [rG hp v1 ht];exact v2
  have hLs:mq p s t=0:=by rw [rG hp hs ht];exact h0
  have hsm:=VP.small hp
  by_cases hz:(nextR p now t (at' l i)).2=0
  ·obtain⟨q1,q2,q3,q4⟩:=kM hp v1 hz
   have hrun:qI p t s (pg++[at' l i])=some (nextR p now t (at' l i)).1:=by
    rw [BD,hr,Option.bind_some,qI.eq_2,if_pos hz];rfl
   have hlen:(pg++[at' l i]).length≤41:=by rw [List.length_append,List.length_singleton];omega
   obtain⟨k,hk1,hk2⟩:=Jm n (i+1) (pg++[at' l i]) (nextR p now t (at' l i)).1 (by omega) (by rw [List.length_append,List.length_singleton];omega) hrun
   have hb:=CS hp _ s _ hs h0 hrun
   have hv':VS p (nextR p now t (at' l i)).1:=by rw [q2];exact q3
   have hL':mq p (nextR p now t (at' l i)).1 t=0:=by rw [rG hp hv' ht,q2];exact q4
   have hok:=EZ hp _ s _ hs hrun
   refine⟨k+1,by omega, ?_⟩
   rw [aF]
   rw [Pt hp hs ht hst h0 hl (by omega) hpg hr hz];exact hk2
  ·obtain⟨k,hk1,hk2⟩:=Jm n (i+1) pg now (by omega) (by omega) hr
   refine⟨k+1,by omega, ?_⟩
   rw [aF]
   have hstep:bU p s l t (pg,now.closed,now.locked,now.badLink,now.on_,now.badSource,now.earthed,now.badBus,(i:Int))=some (.next (pg,now.closed,now.locked,now.badLink,now.on_,now.badSource,now.earthed,now.badBus,((i+1:Nat):Int))):=by
    unfold bU
    simp only
    have hv1:cO p (⟨now.closed,now.locked,now.badLink,now.on_,now.badSource,now.earthed,now.badBus⟩:State) t (FV l (i:Int).toNat ((((i:Int)+1).toNat) - (i:Int).toNat))=some (0,fG,(nextR p now t (at' l i)).2):=by
     rw [show(⟨now.closed,now.locked,now.badLink,now.on_,now.badSource,now.earthed,now.badBus⟩:State)=now from rfl,show(((i:Int)+1).toNat) - (i:Int).toNat=1 by omega,Int.toNat_natCast,NG,rT hsm now hst,J9 hL,if_neg hz]
    rw [uy (by omega),cond_true,wr (by omega),hv1,Option.bind_some,av (by omega),DJ (by simp [hz]),AQ (by rfl)]
    rfl
   rw [hstep];exact hk2
end
theorem E8 {p:au} (s:State) (t:Task) (l:List af) (hp:Small p) (hr:Ur t):lm p s t l=some true:=by
 unfold lm
 rw [PZ hr,Option.bind_some,UY,Option.bind_some]
 cases hb:TW p t with
 |true=>rw [AQ (by rfl),Option.bind_some,AQ (by rfl),Option.bind_some,DJ (by rfl),tX];rfl
 |false=>
  obtain⟨h6,h7⟩:=MR hb
  have hst:=h7.small
  obtain⟨w,hw⟩:=Lh p h7
  rw [DJ (by rfl),hw,Option.bind_some]
  cases w with
  |false=>rw [AQ (by rfl),Option.bind_some,DJ (by rfl),tX];rfl
  |true=>
   by_cases hl:40<l.length
   ·have hd:decide (40<(l.length:Int))=true:=decide_eq_true (by omega)
    rw [hd,AQ (by rfl),Option.bind_some,DJ (by rfl),tX];rfl
   ·have hd:decide (40<(l.length:Int))=false:=decide_eq_false (by omega)
    rw [hd,DJ (by rfl),qy hp s hst,Option.bind_some]
    by_cases h:mq p s t=0
    ·obtain⟨h1,h2,h3,h4⟩:=jL h
     rw [AQ (by simp [h])]
     obtain⟨k,hk1,hk2⟩:=Jm h1 h2 h3 hst h4 (l:=l) (by omega) l.length 0 [] s (by omega) (by simp) rfl
     have hk3:aB (bU p s l t) FUEL ([],s.closed,s.locked,s.badLink,s.on_,s.badSource,s.earthed,s.badBus,0)=some (.brk ()):=dN hk2 (by unfold FUEL;omega)
     revert hk3
     generalize aB (bU p s l t) FUEL ([],s.closed,s.locked,s.badLink,s.on_,s.badSource,s.earthed,s.badBus,0)=o0
     intro hk3
     subst hk3
     rw [tX];rfl
    ·rw [DJ (by simp [h]),tX];rfl
end Sg
