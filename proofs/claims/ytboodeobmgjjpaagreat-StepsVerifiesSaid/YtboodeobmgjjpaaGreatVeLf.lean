import Derived.Test.YtboodeobmgjjpaaGreatVeLe
import Derived.KernelRfl
import Derived.Test.YtboodeobmgjjpaaGreatVeLc
import Derived.SizedLaws
set_option linter.all false
namespace Sg
open Go
abbrev PR:=Nat × List af × List State × Int × Int × Search
def Zb (p:aj) (o:Option (Ex (List Reached × List (List Bool × Bool) × Int) PR)):Out→Prop
 | .go ls fb=> ∃kn,Kn p ls kn∧o=some (.brk (rL ls fb,kn, -1))
 | .large=> ∃f x,o=some (.ret (3,[],[],8,f,x))
 | .found ls fb=> ∃kn,Kn p ls kn∧(o=some (.ret (2,[],[],0,(ls.length:Int) - 1,⟨rL ls fb,kn⟩))∨o=some (.brk (rL ls fb,kn,(ls.length:Int) - 1)))
section
variable {p:aj} (hp:VP p) {t:Task} (ht:oV p t=true) {most:Int} (hm:1≤most∧most≤20000)
include hp ht hm
theorem Fs {now:State} (hn:VS p now) (i:Nat): ∀(n k:Nat) (ls:List State) (fb:List (Int × af)) (kn:List (List Bool × Bool)),Rc p most ls fb→i<ls.length→Kn p ls kn→k+n=t.allowed.length→
  ∃m,m≤n+2∧Zb p (aC (bO (i:Int) now.closed now.locked now.badLink now.on_ now.badSource now.earthed now.badBus p t most [] [] 0) m (rL ls fb,kn, -1,(k:Int))) (Nn p t most now i n k ls fb)
 |0,k,ls,fb,kn,h,hi,hk,hkn=>by
  refine⟨1,by omega,kn,hk, ?_⟩
  have:decide ((k:Int)<(t.allowed.length:Int))=false:=decide_eq_false (by omega)
  rw [aG]
  unfold bO
  simp only [this,cond_false]
 |n+1,k,ls,fb,kn,h,hi,hk,hkn=>by
  obtain⟨_,_,⟨al,ax⟩,⟨gl,gx⟩⟩:=eZ ht
  have hb:bO (i:Int) now.closed now.locked now.badLink now.on_ now.badSource now.earthed now.badBus p t most [] [] 0 (rL ls fb,kn, -1,(k:Int))=
    (bif (!decide ((nextR p now t (at' t.allowed k)).2=0))then some (.next (rL ls fb,kn, -1,((k+1:Nat):Int)))else
     (dS (nextR p now t (at' t.allowed k)).1 (i:Int) (at' t.allowed k) ⟨rL ls fb,kn⟩).bind fun r_1=>
      bif (!r_1.1)then some (.next (r_1.2.l,r_1.2.known, -1,((k+1:Nat):Int)))else
      bif (decide (most<(r_1.2.l.length:Int)))then some (.done (.ret (3,([]:List af),([]:List State),8, -1,r_1.2)))else
      (mE (nextR p now t (at' t.allowed k)).1 t.goal).bind fun r_2=>
      bif r_2 then some (.next (r_1.2.l,r_1.2.known,(IntKind.wrap .i64 ((r_1.2.l.length:Int) - 1)),((k+1:Nat):Int)))else some (.next (r_1.2.l,r_1.2.known, -1,((k+1:Nat):Int)))):=by
   unfold bO
   simp only [Int.toNat_natCast]
   rw [wh (by omega),cond_true,av (by omega)]
   have h0:decide ((0:Int)≤ -1)=false:=by decide
   rw [h0,cond_false,show(⟨now.closed,now.locked,now.badLink,now.on_,now.badSource,now.earthed,now.badBus⟩:State)=now from rfl,KH hp hn ht,Option.bind_some,wr (x:=(k:Int)+1) (by omega)]
   rfl
  unfold Nn
  by_cases h1:(nextR p now t (at' t.allowed k)).2=0
  ·have hv:=uU hp hn h1
   have hvs:VS p (nextR p now t (at' t.allowed k)).1:=by rw [hv.2.1];exact hv.2.2.1
   rw [if_neg (by simp [h1])]
   have hll:=h.most
   rw [h1,decide_eq_true rfl,Bool.not_true,cond_false,add_eq (x:=⟨rL ls fb,kn⟩) hk hvs (i:Int) (at' t.allowed k) (by show(rL ls fb).length≤_;rw [oK];omega),Option.bind_some]at hb
   by_cases h2:(nextR p now t (at' t.allowed k)).1∈ls
   ·rw [if_pos h2]
    rw [decide_eq_true h2]at hb
    simp only [cond_true,Bool.not_false]at hb
    obtain⟨m,hm1,hm2⟩:=Fs hn i n (k+1) ls fb kn h hi hk (by omega)
    refine⟨m+1,by omega, ?_⟩
    rw [aG,hb];exact hm2
   ·rw [if_neg h2]
    rw [decide_eq_false h2]at hb
    simp only [cond_false,Bool.not_true]at hb
    simp only [Xi h.len,oK]at hb
    by_cases h3:most<((ls++[(nextR p now t (at' t.allowed k)).1]).length:Int)
    ·rw [if_pos h3]
     rw [decide_eq_true h3,cond_true]at hb
     exact⟨1,by omega,_,_,by rw [aG,hb]⟩
    ·rw [if_neg h3]
     rw [decide_eq_false h3,cond_false,Kt hvs (by omega) gx,Option.bind_some]at hb
     have hr:=h.add hvs hi (x:=at' t.allowed k) (by omega)
     have hkn2:=hk.add hp hvs
     have hlen:((ls++[(nextR p now t (at' t.allowed k)).1]).length:Int)≤20000:=by omega
     cases h4:Da (nextR p now t (at' t.allowed k)).1 t.goal with
     |true=>
      rw [if_pos rfl]
      rw [h4,cond_true,wr (by omega)]at hb
      by_cases h5:k+1<t.allowed.length
      ·refine⟨2,by omega,_,hkn2, .inl ?_⟩
       rw [aG,hb]
       simp only
       rw [aG]
       unfold bO
       simp only [Int.toNat_natCast]
       rw [wh (by omega),cond_true,av (by omega)]
       have hps:=hr.pos
       rw [decide_eq_true (show(0:Int)≤((ls++[(nextR p now t (at' t.allowed k)).1]).length:Int) - 1 by omega)]
       rfl
      ·refine⟨2,by omega,_,hkn2, .inr ?_⟩
       rw [aG,hb]
       simp only
       rw [aG]
       unfold bO
       have:decide (((k+1:Nat):Int)<(t.allowed.length:Int))=false:=decide_eq_false (by omega)
       simp only [this,cond_false]
     |false=>
      rw [if_neg (by simp)]
      rw [h4,cond_false]at hb
      obtain⟨m,hm1,hm2⟩:=Fs hn i n (k+1) _ _ _ hr (by simp;omega) hkn2 (by omega)
      refine⟨m+1,by omega, ?_⟩
      rw [aG,hb];exact hm2
  ·rw [if_pos h1]
   rw [decide_eq_false h1,Bool.not_false,cond_true]at hb
   obtain⟨m,hm1,hm2⟩:=Fs hn i n (k+1) ls fb kn h hi hk (by omega)
   refine⟨m+1,by omega, ?_⟩
   rw [aG,hb];exact hm2
theorem Gp {now:State} (i:Int) {f:Int} (hf:0≤f) (x:Search):dw i now.closed now.locked now.badLink now.on_ now.badSource now.earthed now.badBus p t most [] [] 0 f x=
  some (if t.allowed=[]then(0,[],[],0,f,x)else(2,[],[],0,f,x)):=by
 obtain⟨_,_,⟨al,ax⟩,_⟩:=eZ ht
 unfold dw
 have hF: ∃k,FUEL=k+1:=⟨1180591620717411303423,rfl⟩
 obtain⟨k,hk⟩:=hF
 rw [hk,aG]
 unfold bO
 by_cases h:t.allowed=[]
 ·rw [if_pos h]
  have:decide ((0:Int)<(t.allowed.length:Int))=false:=decide_eq_false (by rw [h];simp)
  simp only [this,cond_false]
  rfl
 ·rw [if_neg h]
  have hpos:=List.length_pos_iff.2 h
  simp only
  rw [wh (by omega),cond_true,av (by omega),decide_eq_true hf]
  rfl
def YG (p:aj) (o:Option (Ex (List af × List State × Int × List Reached × List (List Bool × Bool) × Int) PR)):Out→Prop
 | .go ls fb=> ∃kn,o=some (.brk ([],[],0,rL ls fb,kn, -1))
 | .large=> ∃f x,o=some (.ret (3,[],[],8,f,x))
 | .found ls fb=> ∃kn,o=some (.ret (2,[],[],0,(ls.length:Int) - 1,⟨rL ls fb,kn⟩))
omit hp ht hm in
noncomputable def QR (p:aj) (t:Task) (most:Int):Nat→Nat→List State→List (Int × af)→Out
 |0,_,ls,fb=> .go ls fb
 |F+1,i,ls,fb=>if i<ls.length then(match Nn p t most (at' ls i) i t.allowed.length 0 ls fb with| .go ls' fb'=>QR p t most F (i+1) ls' fb'| .large=> .large| .found ls' fb'=> .found ls' fb')else .go ls fb
theorem Ql {now:State} (i:Nat): ∀(n k:Nat) (ls:List State) (fb:List (Int × af)) (ls':List State) (fb':List (Int × af)),k+n=t.allowed.length→Nn p t most now i n k ls fb= .found ls' fb'→t.allowed≠[]
 |0,_,_,_,_,_,_,h=>by unfold Nn at h;cases h
 |n+1,k,ls,fb,ls',fb',hk,h=>by intro e;rw [e]at hk;simp at hk
theorem O1: ∀(F i:Nat) (ls:List State) (fb:List (Int × af)) (kn:List (List Bool × Bool)),Rc p most ls fb→i≤ls.length→Kn p ls kn→most<(i:Int)+(F:Int)→
  ∃m,m≤F+2∧YG p (aC (aY p t most) m ([],[],0,rL ls fb,kn, -1,(i:Int))) (QR p t most F i ls fb)
 |0,i,ls,fb,kn,h,hi,hk,hF=>by have:=h.most;omega
 |F+1,i,ls,fb,kn,h,hi,hk,hF=>by
  have hll:=h.most
  by_cases hlt:i<ls.length
  ·have hn:VS p (at' ls i):=h.vs _ (at_mem hlt)
   have hs:(at' (rL ls fb) i).s_=at' ls i:=by unfold rL;rw [gT hlt]
   obtain⟨m0,hm0,hres⟩:=Fs hp ht hm hn i t.allowed.length 0 ls fb kn h hlt hk (by omega)
   have hal:=(eZ ht).2.2.1.1
   have hY: ∀r,dw (i:Int) (at' ls i).closed (at' ls i).locked (at' ls i).badLink (at' ls i).on_ (at' ls i).badSource (at' ls i).earthed (at' ls i).badBus p t most [] [] 0 (-1) ⟨rL ls fb,kn⟩=some r→
     aY p t most ([],[],0,rL ls fb,kn, -1,(i:Int))=(bif (Nat.beq r.1 0)then some (.next (r.2.1,r.2.2.1,r.2.2.2.1,r.2.2.2.2.2.l,r.2.2.2.2.2.known,r.2.2.2.2.1,((i+1:Nat):Int)))else some (.done (.ret (r.1,r.2.1,r.2.2.1,r.2.2.2.1,r.2.2.2.2.1,r.2.2.2.2.2)))):=by
    intro r hr
    unfold aY
    simp only [Int.toNat_natCast,hs]
    rw [wh (by rw [oK];omega),cond_true,hr,Option.bind_some,av (by rw [oK];omega),av (by rw [oK];omega),wr (by omega)]
    rfl
   have hE: ∀o,aC (bO (i:Int) (at' ls i).closed (at' ls i).locked (at' ls i).badLink (at' ls i).on_ (at' ls i).badSource (at' ls i).earthed (at' ls i).badBus p t most [] [] 0) m0 (rL ls fb,kn, -1,((0:Nat):Int))=some o→
     aC (bO (i:Int) (at' ls i).closed (at' ls i).locked (at' ls i).badLink (at' ls i).on_ (at' ls i).badSource (at' ls i).earthed (at' ls i).badBus p t most [] [] 0) FUEL (rL ls fb,kn, -1,0)=some o:=fun o ho=>eF ho (by unfold FUEL;omega)
   have hok:=Eb hp ht hm hn i t.allowed.length 0 ls fb h hlt
   have hfd:=Ql (now:=at' ls i) hp ht hm i t.allowed.length 0 ls fb
   unfold QR
   rw [if_pos hlt]
   revert hres hok hfd
   cases Nn p t most (at' ls i) i t.allowed.length 0 ls fb with
   |go ls' fb'=>
    rintro ⟨kn',hk',ho⟩ hok _
    have hy:=hY (0,[],[],0, -1,⟨rL ls' fb',kn'⟩) (by unfold dw;rw [hE _ ho];rfl)
    obtain⟨m,hm1,hm2⟩:=O1 F (i+1) ls' fb' kn' hok.1 (by have:=hok.2;omega) hk' (by omega)
    refine⟨m+1,by omega, ?_⟩
    rw [aG,hy]
    exact hm2
   |large=>
    rintro ⟨f,x,ho⟩ _ _
    have hy:=hY (3,[],[],8,f,x) (by unfold dw;rw [hE _ ho];rfl)
    exact⟨1,by omega,f,x,by rw [aG,hy];rfl⟩
   |found ls' fb'=>
    rintro ⟨kn',hk',ho⟩ hok hfd
    have hne:=hfd ls' fb' (by omega) rfl
    rcases ho with ho|ho
    ·have hy:=hY (2,[],[],0,(ls'.length:Int) - 1,⟨rL ls' fb',kn'⟩) (by unfold dw;rw [hE _ ho];rfl)
     exact⟨1,by omega,kn',by rw [aG,hy];rfl⟩
    ·have hy:=hY (0,[],[],0,(ls'.length:Int) - 1,⟨rL ls' fb',kn'⟩) (by unfold dw;rw [hE _ ho];rfl)
     refine⟨2,by omega,kn', ?_⟩
     have hlt2:=hok.2
     have hpos:=hok.1.pos
     rw [aG,hy]
     simp only [show Nat.beq 0 0=true from rfl,cond_true]
     rw [aG]
     have hs2:(at' (rL ls' fb') (i+1)).s_=at' ls' (i+1):=by unfold rL;rw [gT (by omega)]
     have hm2:=hok.1.most
     unfold aY
     simp only [Int.toNat_natCast,hs2]
     rw [wh (by rw [oK];omega),cond_true,Gp (now:=at' ls' (i+1)) hp ht hm _ (by omega),if_neg hne,Option.bind_some]
     simp only [show Nat.beq 2 0=false from rfl,cond_false]
     rw [av (by rw [oK];omega)]
  ·refine⟨1,by omega, ?_⟩
   unfold QR
   rw [if_neg hlt]
   refine⟨kn, ?_⟩
   have:decide ((i:Int)<((rL ls fb).length:Int))=false:=decide_eq_false (by rw [oK];omega)
   rw [aG]
   unfold aY
   simp only [this,cond_false]
theorem RZ: ∀(F i:Nat) (ls:List State) (fb:List (Int × af)),Rc p most ls fb→VU p most 0 (QR p t most F i ls fb)
 |0,_,ls,fb,h=> ⟨h,Nat.zero_le _⟩
 |F+1,i,ls,fb,h=>by
  unfold QR
  by_cases hlt:i<ls.length
  ·rw [if_pos hlt]
   have hok:=Eb hp ht hm (h.vs _ (at_mem hlt)) i t.allowed.length 0 ls fb h hlt
   revert hok
   cases Nn p t most (at' ls i) i t.allowed.length 0 ls fb with
   |go ls' fb'=>exact fun hok=>RZ F (i+1) ls' fb' hok.1
   |large=>exact fun _=>trivial
   |found ls' fb'=>exact fun hok=> ⟨hok.1,by have:=hok.2;omega⟩
  ·rw [if_neg hlt];exact⟨h,Nat.zero_le _⟩
end
theorem LB {p:aj} {s:State} (hs:VS p s) {most:Int} (hm:1≤most∧most≤20000) (x:af):Rc p most [s] [(-1,x)]:=
 ⟨fun u hu=>by rw [List.mem_singleton]at hu;rw [hu];exact hs,rfl,by simp,by simp;omega,fun j hj h0=>by simp at hj;omega⟩
theorem G7 {p:aj} {most:Int} {ls:List State} {fb:List (Int × af)} (h:Rc p most ls fb) (hm:most≤20000) {j:Nat} (hj:j<ls.length) (kn:List (List Bool × Bool)):
  bV (j:Int) ⟨rL ls fb,kn⟩=some (path fb j):=by
 have hll:=h.most;have hlen:=h.len
 have run: ∀(n j:Nat) (out:List af),j<ls.length→j<n→out.length+n≤100000→ ∃m,m≤n+1∧aC (d9 ⟨rL ls fb,kn⟩) m ((j:Int),out)=some (.brk (out++(ru fb n (j:Int)).reverse)):=by
  intro n
  induction n with
  |zero=>intro j out _ h1 _;omega
  |succ n ih=>
   intro j out hj h1 ho
   by_cases c:(j:Int)≤0
   ·refine⟨1,by omega, ?_⟩
    rw [aG]
    unfold d9 ru
    have:decide ((0:Int)<(j:Int))=false:=decide_eq_false (by omega)
    simp only [this,cond_false,if_pos c,List.reverse_nil,List.append_nil]
   ·have hf:=h.from_ j (by omega) (by omega)
    have hb:d9 ⟨rL ls fb,kn⟩ ((j:Int),out)=some (.next ((at' fb j).1,out++[(at' fb j).2])):=by
     unfold d9
     simp only [Int.toNat_natCast]
     have e1:at' (rL ls fb) j=⟨at' ls j,(at' fb j).1,(at' fb j).2⟩:=by unfold rL;rw [gT hj]
     rw [wh (by omega),cond_true,av ⟨by rw [oK];omega,by simp only [List.length_singleton];omega,by simp only [List.length_singleton];omega⟩,av (by rw [oK];omega),e1]
    have e:(at' fb j).1=(((at' fb j).1.toNat:Nat):Int):=by omega
    obtain⟨m,hm1,hm2⟩:=ih (at' fb j).1.toNat (out++[(at' fb j).2]) (by omega) (by omega) (by simp only [List.length_append,List.length_singleton];omega)
    refine⟨m+1,by omega, ?_⟩
    rw [aG,hb]
    simp only
    rw [e,hm2]
    conv=>rhs;rw [ru]
    rw [if_neg c,Int.toNat_natCast,List.reverse_append,←e]
    simp
 obtain⟨m,hm1,hm2⟩:=run (j+1) j [] hj (by omega) (by simp;omega)
 unfold bV
 rw [eF hm2 (by unfold FUEL;omega)]
 simp only [List.nil_append,Option.bind_some]
 have hpl:=Hq fb (j+1) (j:Int)
 rw [Ou _ (by rw [List.length_reverse];omega),Option.bind_some,av (by simp),List.reverse_reverse]
 rfl
def pL (fb:List (Int × af)):List (List af):=tab fb.length (path fb)
theorem XM {p:aj} {most:Int} {ls:List State} {fb:List (Int × af)} (h:Rc p most ls fb) {i:Nat} (hi:i<fb.length) (x:af):pL fb++[path fb i++[x]]=pL (fb++[((i:Int),x)]):=by
 apply nH (by simp [pL,aP])
 intro j hj
 unfold pL at hj ⊢
 rw [List.length_append,List.length_singleton,aP]at hj
 rw [gT (by rw [List.length_append,List.length_singleton];exact hj)]
 by_cases e:j<fb.length
 ·rw [vG (by rw [aP];exact e),gT e,SI h e]
 ·have e2:j=fb.length:=by omega
  have:=xQ (tab fb.length (path fb)) (path fb i++[x])
  rw [aP]at this
  rw [e2,this,KV h hi]
abbrev FR:=List af × List State × Int
def Ws (o:Option (Ex (List State × List (List af)) (bC (List State × List (List af) × Int) (Ex (List State) FR)))):Out→Prop
 | .go ls fb=>o=some (.brk (ls,pL fb))
 | .large=>o=some (.ret (.done (.ret ([],[],8))))
 | .found ls fb=>o=some (.ret (.done (.ret (path fb (ls.length - 1),[],0))))
def WQ (o:Option (Ex (List State) FR)):Out→Prop
 | .go ls fb=>o=some (.brk ls)
 | .large=>o=some (.ret ([],[],8))
 | .found ls fb=>o=some (.ret (path fb (ls.length - 1),[],0))
section
variable {p:aj} (hp:VP p) {t:Task} (ht:oV p t=true) (hst:kL t) {most:Int} (hm:1≤most∧most≤20000)
include hp ht hst hm
theorem Kl (i:Nat): ∀(n k:Nat) (ls:List State) (fb:List (Int × af)),Rc p most ls fb→i<ls.length→k+n=t.allowed.length→
  ∃m,m≤n+1∧Ws (aC (gV p t most (i:Int)) m (ls,pL fb,(k:Int))) (Nn p t most (at' ls i) i n k ls fb)
 |0,k,ls,fb,h,hi,hkn=>by
  refine⟨1,by omega, ?_⟩
  show _=_
  have:decide ((k:Int)<(t.allowed.length:Int))=false:=decide_eq_false (by omega)
  rw [aG]
  unfold gV
  simp only [this,cond_false]
 |n+1,k,ls,fb,h,hi,hkn=>by
  obtain⟨_,_,⟨al,ax⟩,⟨gl,gx⟩⟩:=eZ ht
  have hll:=h.most;have hlen:=h.len
  have hn:VS p (at' ls i):=h.vs _ (at_mem hi)
  have hroom: ∀x∈ls,yF x:=fun x hx=>VS.room hp (h.vs x hx)
  have hpl:(path fb i).length≤20001:=by have:=Hq fb (i+1) (i:Int);unfold path;omega
  have hpi:at' (pL fb) i=path fb i:=by unfold pL;rw [gT (by omega)]
  have hpn:(pL fb).length=fb.length:=aP _ _
  obtain⟨ri,ri1,ri2⟩:=GA (l:=ls) (by omega) hroom (nextR p (at' ls i) t (at' t.allowed k)).1
  have hb:gV p t most (i:Int) (ls,pL fb,(k:Int))=
    (if(nextR p (at' ls i) t (at' t.allowed k)).2≠0 then some (.next (ls,pL fb,((k+1:Nat):Int)))else
     if(nextR p (at' ls i) t (at' t.allowed k)).1∈ls then some (.next (ls,pL fb,((k+1:Nat):Int)))else
     if most<((ls++[(nextR p (at' ls i) t (at' t.allowed k)).1]).length:Int)then some (.done (.ret (.done (.ret ([],[],8)))))else
     if Da (nextR p (at' ls i) t (at' t.allowed k)).1 t.goal=true then some (.done (.ret (.done (.ret (path fb i++[at' t.allowed k],[],0)))))else
     some (.next (ls++[(nextR p (at' ls i) t (at' t.allowed k)).1],pL fb++[path fb i++[at' t.allowed k]],((k+1:Nat):Int)))):=by
   unfold gV
   simp only [Int.toNat_natCast]
   rw [wh (by omega),cond_true,CY hp hn,Option.bind_some,av ⟨by omega,by omega⟩,wr (by omega)]
   by_cases h0:IC p (at' ls i) (at' t.allowed k)=0
   ·have e:GX p (at' ls i) (at' t.allowed k)=(o9 (at' ls i) (at' t.allowed k),0):=by unfold GX;rw [if_pos h0]
    have en:nextR p (at' ls i) t (at' t.allowed k)=(o9 (at' ls i) (at' t.allowed k),BJ p (o9 (at' ls i) (at' t.allowed k)) t):=by unfold nextR;rw [if_pos h0]
    have ha:=VS.Yf hp hn (xw h0).1
    rw [en]at ri1 ri2
    rw [e,en]
    simp only at ri1 ri2 ⊢
    simp only [decide_true,Bool.not_true,gB,Bool.and_true,show(false==false)=true from rfl,cond_true,cond_false]
    rw [j4 (VP.small hp) _ hst,JW hp ha ht,Option.bind_some]
    by_cases h2:BJ p (o9 (at' ls i) (at' t.allowed k)) t=0
    ·rw [if_neg (by simp [h2]),h2]
     simp only [decide_true,Bool.not_true,gB,Bool.and_true,show(false==false)=true from rfl,cond_true,cond_false]
     rw [ri1,Option.bind_some]
     by_cases h3:o9 (at' ls i) (at' t.allowed k)∈ls
     ·rw [if_pos h3,decide_eq_true (ri2.2 h3),cond_true];rfl
     ·rw [if_neg h3,decide_eq_false (fun q=>h3 (ri2.1 q)),cond_false]
      have hcs:dW (at' (pL fb) i)=some (path fb i):=by
       rw [hpi];unfold dW;rw [av (by omega)]
      rw [av ⟨by simp only [List.length_singleton];omega,by simp only [List.length_singleton];omega⟩,hcs,Option.bind_some]
      rw [av ⟨by rw [hpn];omega,by omega,by simp only [List.length_singleton];omega,by simp only [List.length_singleton];omega⟩]
      rw [av ⟨by simp only [List.length_singleton,hpn];omega,by simp only [List.length_singleton,hpn];omega⟩]
      by_cases h4:most<((ls++[o9 (at' ls i) (at' t.allowed k)]).length:Int)
      ·rw [if_pos h4,decide_eq_true h4,cond_true]
      ·rw [if_neg h4,decide_eq_false h4,cond_false,Ep ha (by omega) gx,Option.bind_some]
       cases Da (o9 (at' ls i) (at' t.allowed k)) t.goal with
       |true=>rw [if_pos rfl,cond_true]
       |false=>rw [if_neg (by simp),cond_false];rfl
    ·rw [if_pos (by simpa using h2)]
     simp only [decide_eq_false h2,Bool.not_false,gB,Bool.and_true,show(true==false)=false from rfl,cond_true,cond_false,Option.bind_some]
     rfl
   ·have e:GX p (at' ls i) (at' t.allowed k)=(fQ,IC p (at' ls i) (at' t.allowed k)):=by unfold GX;rw [if_neg h0]
    have en:nextR p (at' ls i) t (at' t.allowed k)=(fQ,IC p (at' ls i) (at' t.allowed k)):=by unfold nextR;rw [if_neg h0]
    rw [e,en]
    simp only
    rw [if_pos (by simpa using h0)]
    simp only [decide_eq_false h0,Bool.not_false,gB,Bool.and_true,show(true==false)=false from rfl,cond_true,cond_false,Option.bind_some]
    rfl
  unfold Nn
  split
  ·rename_i h1
   rw [if_pos h1]at hb
   obtain⟨m,hm1,hm2⟩:=Kl i n (k+1) ls fb h hi (by omega)
   refine⟨m+1,by omega, ?_⟩
   rw [aG,hb];exact hm2
  ·rename_i h1
   rw [if_neg h1]at hb
   have hv:=uU hp hn (Decidable.not_not.1 h1)
   have hvs:VS p (nextR p (at' ls i) t (at' t.allowed k)).1:=by rw [hv.2.1];exact hv.2.2.1
   split
   ·rename_i h2
    rw [if_pos h2]at hb
    obtain⟨m,hm1,hm2⟩:=Kl i n (k+1) ls fb h hi (by omega)
    refine⟨m+1,by omega, ?_⟩
    rw [aG,hb];exact hm2
   ·rename_i h2
    rw [if_neg h2]at hb
    split
    ·rename_i h3
     rw [if_pos h3]at hb
     exact⟨1,by omega,by show _=_;rw [aG,hb]⟩
    ·rename_i h3
     rw [if_neg h3]at hb
     have hr:=h.add hvs hi (x:=at' t.allowed k) (by omega)
     split
     ·rename_i h4
      rw [if_pos h4]at hb
      refine⟨1,by omega, ?_⟩
      show _=_
      rw [aG,hb]
      have e1:(ls++[(nextR p (at' ls i) t (at' t.allowed k)).1]).length - 1=fb.length:=by rw [List.length_append,List.length_singleton];omega
      rw [e1,KV h (by omega)]
     ·rename_i h4
      rw [if_neg h4]at hb
      have hat:at' (ls++[(nextR p (at' ls i) t (at' t.allowed k)).1]) i=at' ls i:=vG hi
      obtain⟨m,hm1,hm2⟩:=Kl i n (k+1) _ _ hr (by rw [List.length_append,List.length_singleton];omega) (by omega)
      rw [hat]at hm2
      refine⟨m+1,by omega, ?_⟩
      rw [aG,hb]
      simp only
      rw [XM h (by omega)]
      exact hm2
theorem Ry: ∀(F i:Nat) (ls:List State) (fb:List (Int × af)),Rc p most ls fb→i≤ls.length→most<(i:Int)+(F:Int)→
  ∃m,m≤F+1∧WQ (aC (fI p t most) m (ls,pL fb,(i:Int))) (QR p t most F i ls fb)
 |0,i,ls,fb,h,hi,hF=>by have:=h.most;omega
 |F+1,i,ls,fb,h,hi,hF=>by
  have hll:=h.most
  by_cases hlt:i<ls.length
  ·obtain⟨m0,hm0,hres⟩:=Kl hp ht hst hm i t.allowed.length 0 ls fb h hlt (by omega)
   have hal:=(eZ ht).2.2.1.1
   have hok:=Eb hp ht hm (h.vs _ (at_mem hlt)) i t.allowed.length 0 ls fb h hlt
   have hE: ∀o,aC (gV p t most (i:Int)) m0 (ls,pL fb,((0:Nat):Int))=some o→aC (gV p t most (i:Int)) FUEL (ls,pL fb,0)=some o:=fun o ho=>eF ho (by unfold FUEL;omega)
   unfold QR
   rw [if_pos hlt]
   revert hres hok
   cases Nn p t most (at' ls i) i t.allowed.length 0 ls fb with
   |go ls' fb'=>
    intro ho hok
    obtain⟨m,hm1,hm2⟩:=Ry F (i+1) ls' fb' hok.1 (by have:=hok.2;omega) (by omega)
    refine⟨m+1,by omega, ?_⟩
    rw [aG]
    unfold fI
    simp only
    rw [wh (by omega),cond_true,hE _ ho,Option.bind_some,wr (by omega)]
    exact hm2
   |large=>
    intro ho _
    refine⟨1,by omega, ?_⟩
    show _=_
    rw [aG]
    unfold fI
    simp only
    rw [wh (by omega),cond_true,hE _ ho,Option.bind_some]
   |found ls' fb'=>
    intro ho _
    refine⟨1,by omega, ?_⟩
    show _=_
    rw [aG]
    unfold fI
    simp only
    rw [wh (by omega),cond_true,hE _ ho,Option.bind_some]
  ·refine⟨1,by omega, ?_⟩
   unfold QR
   rw [if_neg hlt]
   show _=_
   have:decide ((i:Int)<(ls.length:Int))=false:=decide_eq_false (by omega)
   rw [aG]
   unfold fI
   simp only [this,cond_false]
end
noncomputable def O6 (p:aj) (s:State) (t:Task) (most:Int):FR:=
 if qH p s t≠0 then([],[],qH p s t)else if most<1∨20000<most then([],[],1)else if Da s t.goal=true then([],[],0)else
  match QR p t most 20002 0 [s] [(-1,⟨0,0⟩)]with
  | .go ls _=>([],ls,4)
  | .large=>([],[],8)
  | .found ls fb=>(path fb (ls.length - 1),[],0)
theorem Gg {p:aj} (hp:Small p) (s:State) {t:Task} (hst:kL t) (most:Int):sO p s t most=some (O6 p s t most):=by
 unfold sO O6
 rw [j4 hp s hst,Option.bind_some]
 by_cases h:qH p s t=0
 ·obtain⟨h1,h2,h3,h4⟩:=jW h
  rw [if_neg (by simp [h]),h]
  simp only [decide_true,Bool.not_true,cond_false]
  by_cases hmm:most<1∨20000<most
  ·rw [if_pos hmm,eu]
   have:(decide (most<1)||decide (20000<most))=true:=by
    rw [Bool.or_eq_true,decide_eq_true_iff,decide_eq_true_iff];exact hmm
   rw [this];rfl
  ·rw [if_neg hmm,eu]
   have:(decide (most<1)||decide (20000<most))=false:=by
    rw [Bool.or_eq_false_iff,decide_eq_false_iff_not,decide_eq_false_iff_not];exact⟨fun q=>hmm (.inl q),fun q=>hmm (.inr q)⟩
   rw [this,cond_false]
   obtain⟨_,_,_,⟨gl,gx⟩⟩:=eZ h3
   rw [Ep h2 (by omega) gx,Option.bind_some]
   cases Da s t.goal with
   |true=>rw [if_pos rfl];rfl
   |false=>
    rw [if_neg (by simp),cond_false]
    have hm:1≤most∧most≤20000:=by omega
    obtain⟨m,hm1,hm2⟩:=Ry h1 h3 hst hm 20002 0 [s] [(-1,⟨0,0⟩)] (LB h2 hm _) (by simp) (by omega)
    have e:pL [((-1:Int),(⟨0,0⟩:af))]=[([]:List af)]:=by
     simp [pL,tab,path,ru]
    rw [e]at hm2
    revert hm2
    cases QR p t most 20002 0 [s] [(-1,⟨0,0⟩)]with
    |go ls fb=>intro ho;rw [show(0:Int)=((0:Nat):Int)from rfl,eF ho (by unfold FUEL;omega)];rfl
    |large=>intro ho;rw [show aC (fI p t most) FUEL ([s],[[]],0)=_ from eF ho (by unfold FUEL;omega)];rfl
    |found ls fb=>intro ho;rw [show aC (fI p t most) FUEL ([s],[[]],0)=_ from eF ho (by unfold FUEL;omega)];rfl
 ·rw [if_pos h];simp [h]
theorem Pv (ls:List State) (fb:List (Int × af)) (kn:List (List Bool × Bool)) (hl:ls.length≤100000):bX [] ⟨rL ls fb,kn⟩=some ls:=by
 have key:aC (bZ ⟨rL ls fb,kn⟩) FUEL (ls.take 0,((0:Nat):Int))=some (.brk (ls.take ls.length)):=by
  refine cZ (body:=bZ ⟨rL ls fb,kn⟩) (fun i=>(ls.take i,(i:Int))) ls.length _ (fuel_lt (by omega)) (fun i hi=> ?_) ?_
  ·have e1:(at' (rL ls fb) i).s_=at' ls i:=by unfold rL;rw [gT hi]
   unfold bZ pz
   simp only [Int.toNat_natCast,e1]
   rw [wh (by rw [oK];omega),cond_true,av ⟨by simp only [List.length_take,List.length_singleton];omega,by simp only [List.length_take,List.length_singleton];omega⟩,Option.bind_some,av (by rw [oK];omega),wr (by omega),mW hi]
   rfl
  ·unfold bZ
   have:decide ((ls.length:Int)<((rL ls fb).length:Int))=false:=decide_eq_false (by rw [oK];omega)
   simp only [this,cond_false]
 rw [List.take_length]at key
 unfold bX
 rw [show aC (bZ ⟨rL ls fb,kn⟩) FUEL ([],0)=_ from key];rfl
theorem O5 {p:aj} (hp:Small p) (s:State) {t:Task} (hst:kL t) (most:Int):gy p s t most=some (O6 p s t most):=by
 unfold gy O6
 rw [uD hp s hst,Option.bind_some]
 by_cases h:qH p s t=0
 ·obtain⟨h1,h2,h3,h4⟩:=jW h
  rw [if_neg (by simp [h]),h]
  simp only [decide_true,Bool.not_true,cond_false]
  by_cases hmm:most<1∨20000<most
  ·rw [if_pos hmm,eu]
   have:(decide (most<1)||decide (20000<most))=true:=by
    rw [Bool.or_eq_true,decide_eq_true_iff,decide_eq_true_iff];exact hmm
   rw [this];rfl
  ·rw [if_neg hmm,eu]
   have:(decide (most<1)||decide (20000<most))=false:=by
    rw [Bool.or_eq_false_iff,decide_eq_false_iff_not,decide_eq_false_iff_not];exact⟨fun q=>hmm (.inl q),fun q=>hmm (.inr q)⟩
   rw [this,cond_false]
   obtain⟨_,_,⟨al,_⟩,⟨gl,gx⟩⟩:=eZ h3
   have hm:1≤most∧most≤20000:=by omega
   have hadd:=add_eq (ls:=[]) (x:=⟨[],[]⟩) Kn.nil h2 (-1) ⟨0,0⟩ (by simp)
   rw [Jy s (VS.small h1 h2),Option.bind_some,hadd]
   simp only [List.not_mem_nil,decide_false,cond_false,Option.bind_some]
   rw [Kt h2 (by omega) gx,Option.bind_some]
   have e0:([]:List Reached)++[(⟨s, -1,⟨0,0⟩⟩:Reached)]=rL [s] [(-1,⟨0,0⟩)]:=by simp [rL,tab,at']
   have hkn:Kn p [s] (fF (tH 280) (qM s) true []):=by have:=(Kn.nil (p:=p)).add h1 h2;simpa using this
   rw [e0]
   generalize hk0:fF (tH 280) (qM s) true ([]:List (List Bool × Bool))=k0 at hkn
   have hrc:=LB h2 hm (⟨0,0⟩:af)
   cases hmet:Da s t.goal with
   |true=>
    rw [if_pos rfl]
    simp only [cond_true,cK,Option.bind_some]
    have hz:bR p t most [] [] 0 0 ⟨rL [s] [(-1,⟨0,0⟩)],k0⟩=some (if t.allowed=[]then(0,[],[],0,0,⟨rL [s] [(-1,⟨0,0⟩)],k0⟩)else(2,[],[],0,0,⟨rL [s] [(-1,⟨0,0⟩)],k0⟩)):=by
     unfold bR
     obtain⟨k,hk⟩: ∃k,FUEL=k+1+1:=⟨1180591620717411303422,rfl⟩
     rw [hk,aG]
     have hs0:(at' (rL [s] [(-1,⟨0,0⟩)]) 0).s_=s:=rfl
     have b0:aY p t most ([],[],0,rL [s] [(-1,⟨0,0⟩)],k0,0,0)=some (if t.allowed=[]then .next ([],[],0,rL [s] [(-1,⟨0,0⟩)],k0,0,1)else .done (.ret (2,[],[],0,0,⟨rL [s] [(-1,⟨0,0⟩)],k0⟩))):=by
      unfold aY
      simp only
      have hll:((rL [s] [((-1:Int),(⟨0,0⟩:af))]).length:Int)=1:=rfl
      rw [hll,show decide ((0:Int)<1)=true from rfl,cond_true,show((0:Int)).toNat=0 from rfl,hs0,Gp (now:=s) h1 h3 hm 0 (Int.le_refl 0)]
      by_cases ha:t.allowed=[]
      ·rw [if_pos ha,if_pos ha];rfl
      ·rw [if_neg ha,if_neg ha];rfl
     rw [b0]
     by_cases ha:t.allowed=[]
     ·rw [if_pos ha,if_pos ha]
      simp only
      rw [aG]
      rfl
     ·rw [if_neg ha,if_neg ha];rfl
    rw [hz,Option.bind_some]
    have hpr:=G7 hrc hm.2 (j:=0) (by simp) k0
    have hpth:path [((-1:Int),(⟨0,0⟩:af))] 0=[]:=by simp [path,ru]
    rw [hpth]at hpr
    have hpr':bV 0 ⟨rL [s] [(-1,⟨0,0⟩)],k0⟩=some []:=hpr
    by_cases ha:t.allowed=[]
    ·rw [if_pos ha]
     simp only [show Nat.beq 0 0=true from rfl,cond_true,show decide ((0:Int)≤0)=true from rfl]
     rw [hpr'];rfl
    ·rw [if_neg ha]
     simp only [show Nat.beq 2 0=false from rfl,show Nat.beq 2 2=true from rfl,cond_true,cond_false,show decide ((0:Int)≤0)=true from rfl]
     rw [hpr'];rfl
   |false=>
    rw [if_neg (by simp)]
    simp only [cond_false,cK,Option.bind_some]
    obtain⟨m,hm1,hm2⟩:=O1 h1 h3 hm 20002 0 [s] [(-1,⟨0,0⟩)] k0 hrc (by simp) hkn (by omega)
    have hok:=RZ h1 h3 hm 20002 0 [s] [(-1,⟨0,0⟩)] hrc
    have hE: ∀o,aC (aY p t most) m ([],[],0,rL [s] [(-1,⟨0,0⟩)],k0, -1,((0:Nat):Int))=some o→aC (aY p t most) FUEL ([],[],0,rL [s] [(-1,⟨0,0⟩)],k0, -1,0)=some o:=fun o ho=>eF ho (by unfold FUEL;omega)
    revert hm2 hok
    cases QR p t most 20002 0 [s] [(-1,⟨0,0⟩)]with
    |go ls fb=>
     rintro ⟨kn,ho⟩ hok
     have hll:=hok.1.most
     unfold bR
     rw [hE _ ho]
     simp only [Option.bind_some,show Nat.beq 0 0=true from rfl,cond_true,show decide ((0:Int)≤ -1)=false from rfl,cond_false]
     rw [Pv ls fb kn (by omega)];rfl
    |large=>
     rintro ⟨f,x,ho⟩ _
     unfold bR
     rw [hE _ ho]
     simp only [Option.bind_some,show Nat.beq 3 0=false from rfl,show Nat.beq 3 2=false from rfl,cond_false]
     rfl
    |found ls fb=>
     rintro ⟨kn,ho⟩ hok
     have hpos:=hok.1.pos
     unfold bR
     rw [hE _ ho]
     simp only [Option.bind_some,show Nat.beq 2 0=false from rfl,show Nat.beq 2 2=true from rfl,cond_false,cond_true]
     rw [decide_eq_true (show(0:Int)≤(ls.length:Int) - 1 by omega),cond_true]
     have hpr:=G7 hok.1 hm.2 (j:=ls.length - 1) (by omega) kn
     rw [show((ls.length - 1:Nat):Int)=(ls.length:Int) - 1 by omega]at hpr
     rw [hpr];rfl
 ·rw [if_pos h];simp [h]
noncomputable def Aa (p:aj) (t:Task) (y:State):Bool:= !decide (qH p y t=0)||Da y t.goal
noncomputable def yt (p:aj) (t:Task) (l:List State) (y:State) (x:af):Bool:=decide ((nextR p y t x).2=0) && !decide ((nextR p y t x).1∈l)
noncomputable def Fb (p:aj) (s:State) (t:Task) (l:List State):Int:=
 if qH p s t≠0 then qH p s t else if 20000<l.length then 2 else bif l.any (Aa p t)then 7 else bif !decide (s∈l)then 7 else bif l.any (fun y=>t.allowed.any (yt p t l y))then 7 else 0
theorem FN {p:aj} {t:Task} {y:State} (h:Aa p t y=false):qH p y t=0∧Da y t.goal=false:=by
 unfold Aa at h
 rw [Bool.or_eq_false_iff,Bool.not_eq_false',decide_eq_true_iff]at h
 exact h
section
variable {p:aj} (hp:VP p) {t:Task} (ht:oV p t=true) (hst:kL t) {l:List State} (hl:l.length≤20000)
include hp ht hst hl
theorem VK: ∀(n i:Nat) (x:Search),i+n=l.length→x.l.length≤i→Kn p (l.take i) x.known→
  ∃m,m≤n+1∧(((l.drop i).any (Aa p t)=true∧aC (di p t l) m (x.l,x.known,(i:Int))=some (.ret 7))∨
   ((l.drop i).any (Aa p t)=false∧ ∃x':Search,Kn p l x'.known∧aC (di p t l) m (x.l,x.known,(i:Int))=some (.brk (x'.l,x'.known))))
 |0,i,x,hi,hx,hk=>by
  refine⟨1,by omega, .inr ⟨?_,x, ?_, ?_⟩⟩
  ·rw [List.drop_eq_nil_of_le (by omega)];rfl
  ·rw [List.take_of_length_le (by omega)]at hk;exact hk
  ·have:decide ((i:Int)<(l.length:Int))=false:=decide_eq_false (by omega)
   rw [aG]
   unfold di
   simp only [this,cond_false]
 |n+1,i,x,hi,hx,hk=>by
  have hlt:i<l.length:=by omega
  obtain⟨_,_,_,⟨gl,gx⟩⟩:=eZ ht
  have hdrop:(l.drop i).any (Aa p t)=(Aa p t (at' l i)||(l.drop (i+1)).any (Aa p t)):=by
   rw [List.drop_eq_getElem_cons hlt,List.any_cons,fZ hlt]
  have htk:l.take (i+1)=l.take i++[at' l i]:=mW hlt
  by_cases h0:qH p (at' l i) t=0
  ·obtain⟨_,hv,_,_⟩:=jW h0
   cases hm:Da (at' l i) t.goal with
   |true=>
    refine⟨1,by omega, .inl ⟨?_, ?_⟩⟩
    ·rw [hdrop];unfold Aa;rw [hm];simp
    ·rw [aG]
     unfold di
     simp only [Int.toNat_natCast]
     rw [wh (by omega),cond_true,av (by omega),uD (VP.small hp) _ hst,h0,Option.bind_some]
     simp only [decide_true,Bool.not_true,gB,Bool.and_true,show(false==false)=true from rfl,cond_true,cond_false]
     rw [Kt hv (by omega) gx,hm]
     rfl
   |false=>
    have hb:Aa p t (at' l i)=false:=by unfold Aa;rw [hm,h0];simp
    have hadd:=add_eq (x:=x) hk hv (-1) ⟨0,0⟩ (by omega)
    obtain⟨x2,hx2,hx2l,hk2⟩: ∃x2:Search,dS (at' l i) (-1) ⟨0,0⟩ x=some (!decide (at' l i∈l.take i),x2)∧x2.l.length≤i+1∧Kn p (l.take (i+1)) x2.known:=by
     by_cases hin:at' l i∈l.take i
     ·refine⟨x, ?_,by omega, ?_⟩
      ·rw [hadd,decide_eq_true hin];rfl
      ·intro u hu
       rw [hk u hu,htk,List.mem_append,List.mem_singleton]
       exact⟨fun q=> .inl q,fun q=>q.elim id fun e=>e ▸ hin⟩
     ·refine⟨⟨x.l++[⟨at' l i, -1,⟨0,0⟩⟩],fF (tH 280) (qM (at' l i)) true x.known⟩, ?_, ?_, ?_⟩
      ·rw [hadd,decide_eq_false hin];rfl
      ·simp;omega
      ·rw [htk];exact hk.add hp hv
    obtain⟨m,hm1,hm2⟩:=VK n (i+1) x2 (by omega) hx2l hk2
    have hstep:di p t l (x.l,x.known,(i:Int))=some (.next (x2.l,x2.known,((i+1:Nat):Int))):=by
     unfold di
     simp only [Int.toNat_natCast]
     rw [wh (by omega),cond_true,av (by omega),uD (VP.small hp) _ hst,h0,Option.bind_some]
     simp only [decide_true,Bool.not_true,gB,Bool.and_true,show(false==false)=true from rfl,cond_true,cond_false]
     rw [Kt hv (by omega) gx,hm,Option.bind_some,cond_false,show(⟨x.l,x.known⟩:Search)=x from rfl,hx2,Option.bind_some,wr (by omega)]
     rfl
    refine⟨m+1,by omega, ?_⟩
    rw [aG,hstep,hdrop,hb,Bool.false_or]
    exact hm2
  ·refine⟨1,by omega, .inl ⟨?_, ?_⟩⟩
   ·rw [hdrop];unfold Aa;rw [decide_eq_false h0];simp
   ·rw [aG]
    unfold di
    simp only [Int.toNat_natCast]
    rw [wh (by omega),cond_true,av (by omega),uD (VP.small hp) _ hst,Option.bind_some]
    simp only [decide_eq_false h0,Bool.not_false,gB,Bool.and_true,show(true==false)=false from rfl,cond_true,cond_false,Option.bind_some]
theorem aaL {kn:List (List Bool × Bool)} (hk:Kn p l kn) (hv: ∀y∈l,VS p y):aC (lM p t l kn) FUEL 0=some (bif l.any (fun y=>t.allowed.any (yt p t l y))then .ret 7 else .brk ()):=by
 obtain⟨_,_,⟨al,ax⟩,_⟩:=eZ ht
 rw [←jV l fun y=>t.allowed.any (yt p t l y)]
 refine dB l.length (fun i=>t.allowed.any (yt p t l (at' l i))) 7 (by omega) (fun i hi=> ?_) (by unfold lM;simp)
 have hvi:=hv _ (at_mem hi)
 have e2:aC (l7 p t l kn (i:Int)) FUEL 0=some (bif t.allowed.any (yt p t l (at' l i))then .ret (.done (.ret 7))else .brk ()):=by
  rw [←jV t.allowed (yt p t l (at' l i))]
  refine dB t.allowed.length (fun k=>yt p t l (at' l i) (at' t.allowed k)) (bC.done (Ex.ret (7:Int)):bC Int (Ex Unit Int)) (by omega) (fun k hk'=> ?_) (by unfold l7;simp)
  unfold l7 yt
  simp only [Int.toNat_natCast]
  rw [wh (by omega),cond_true,av (by omega),KH hp hvi ht,Option.bind_some,wr (by omega)]
  by_cases h0:(nextR p (at' l i) t (at' t.allowed k)).2=0
  ·have hn:=uU hp hvi h0
   have hvn:VS p (nextR p (at' l i) t (at' t.allowed k)).1:=by rw [hn.2.1];exact hn.2.2.1
   rw [h0]
   simp only [decide_true,gB,Bool.and_true,beq_self_eq_true,cond_true,Bool.true_and]
   rw [Gn,Option.bind_some,hk.has hvn]
   exact fB _ _ _
  ·simp only [decide_eq_false h0,gB,Bool.and_true,show(false==true)=false from rfl,cond_false,Option.bind_some,Bool.false_and]
 unfold lM
 rw [wh (by omega),cond_true,av (by omega),e2,wr (by omega)]
 cases t.allowed.any (yt p t l (at' l i))<;>rfl
theorem Xn (hv: ∀y∈l,VS p y):aC (lZ p t l) FUEL 0=some (bif l.any (fun y=>t.allowed.any (yt p t l y))then .ret 7 else .brk ()):=by
 obtain⟨_,_,⟨al,ax⟩,_⟩:=eZ ht
 have hroom: ∀x∈l,yF x:=fun x hx=>VS.room hp (hv x hx)
 rw [←jV l fun y=>t.allowed.any (yt p t l y)]
 refine dB l.length (fun i=>t.allowed.any (yt p t l (at' l i))) 7 (by omega) (fun i hi=> ?_) (by unfold lZ;simp)
 have hvi:=hv _ (at_mem hi)
 have e2:aC (lU p t l (i:Int)) FUEL 0=some (bif t.allowed.any (yt p t l (at' l i))then .ret (.done (.ret 7))else .brk ()):=by
  rw [←jV t.allowed (yt p t l (at' l i))]
  refine dB t.allowed.length (fun k=>yt p t l (at' l i) (at' t.allowed k)) (bC.done (Ex.ret (7:Int)):bC Int (Ex Unit Int)) (by omega) (fun k hk'=> ?_) (by unfold lU;simp)
  unfold lU yt
  simp only [Int.toNat_natCast]
  rw [wh (by omega),cond_true,CY hp hvi,Option.bind_some,av ⟨by omega,by omega⟩,wr (by omega)]
  by_cases h0:IC p (at' l i) (at' t.allowed k)=0
  ·have e:GX p (at' l i) (at' t.allowed k)=(o9 (at' l i) (at' t.allowed k),0):=by unfold GX;rw [if_pos h0]
   have en:nextR p (at' l i) t (at' t.allowed k)=(o9 (at' l i) (at' t.allowed k),BJ p (o9 (at' l i) (at' t.allowed k)) t):=by unfold nextR;rw [if_pos h0]
   have ha:=VS.Yf hp hvi (xw h0).1
   rw [e,en]
   simp only [decide_true,gB,Bool.and_true,beq_self_eq_true,cond_true]
   rw [j4 (VP.small hp) _ hst,JW hp ha ht,Option.bind_some]
   obtain⟨ri,ri1,ri2⟩:=GA (l:=l) (by omega) hroom (o9 (at' l i) (at' t.allowed k))
   by_cases h2:BJ p (o9 (at' l i) (at' t.allowed k)) t=0
   ·simp only [h2,decide_true,cond_true,beq_self_eq_true,Bool.true_and]
    rw [ri1,Option.bind_some]
    have:decide (ri<0)= !decide (o9 (at' l i) (at' t.allowed k)∈l):=by
     rw [Bool.eq_iff_iff,decide_eq_true_iff,Bool.not_eq_true',decide_eq_false_iff_not,←ri2];omega
    rw [this]
    exact fB _ _ _
   ·simp only [decide_eq_false h2,cond_false,show(false==true)=false from rfl,Option.bind_some,Bool.false_and]
  ·have e:GX p (at' l i) (at' t.allowed k)=(fQ,IC p (at' l i) (at' t.allowed k)):=by unfold GX;rw [if_neg h0]
   have en:nextR p (at' l i) t (at' t.allowed k)=(fQ,IC p (at' l i) (at' t.allowed k)):=by unfold nextR;rw [if_neg h0]
   rw [e,en]
   simp only [decide_eq_false h0,gB,Bool.and_true,show(false==true)=false from rfl,cond_false,Option.bind_some,Bool.false_and]
 unfold lZ
 rw [wh (by omega),cond_true,e2,wr (by omega)]
 cases t.allowed.any (yt p t l (at' l i))<;>rfl
theorem Wn:aC (lN p t l) FUEL 0=some (bif l.any (Aa p t)then .ret 7 else .brk ()):=by
 obtain⟨_,_,_,⟨gl,gx⟩⟩:=eZ ht
 rw [←jV l (Aa p t)]
 refine dB l.length (fun i=>Aa p t (at' l i)) 7 (by omega) (fun i hi=> ?_) (by unfold lN;simp)
 unfold lN
 simp only [Int.toNat_natCast]
 rw [wh (by omega),cond_true,j4 (VP.small hp) _ hst,Option.bind_some,wr (by omega)]
 unfold Aa
 by_cases h0:qH p (at' l i) t=0
 ·obtain⟨_,hv,_,_⟩:=jW h0
  simp only [h0,decide_true,Bool.not_true,gB,Bool.and_true,show(false==false)=true from rfl,cond_true,cond_false,Bool.false_or]
  rw [Ep hv (by omega) gx,Option.bind_some,av ⟨by omega,fun _=>by omega⟩]
  exact fB _ _ _
 ·simp only [decide_eq_false h0,Bool.not_false,gB,Bool.and_true,show(true==false)=false from rfl,cond_false,cond_true,Option.bind_some,Bool.true_or]
  rw [av ⟨by omega,fun _=>by omega⟩]
end
theorem Ps {p:aj} (hp:Small p) (s:State) {t:Task} (hst:kL t) (l:List State):jO p s t l=some (Fb p s t l):=by
 unfold jO Fb
 rw [uD hp s hst,Option.bind_some]
 by_cases h:qH p s t=0
 ·obtain⟨h1,h2,h3,h4⟩:=jW h
  rw [if_neg (by simp [h]),h]
  simp only [decide_true,Bool.not_true,cond_false]
  by_cases hl:20000<l.length
  ·rw [if_pos hl,decide_eq_true (show(20000:Int)<(l.length:Int) by omega),cond_true]
  ·rw [if_neg hl,decide_eq_false (show ¬ (20000:Int)<(l.length:Int) by omega),cond_false]
   obtain⟨m,hm1,hm2⟩:=VK h1 h3 hst (l:=l) (by omega) l.length 0 ⟨[],[]⟩ (by omega) (by simp) (by rw [List.take_zero];exact Kn.nil)
   rw [List.drop_zero]at hm2
   rcases hm2 with⟨ha,hr⟩|⟨ha,x',hk,hr⟩
   ·rw [ha,show aC (di p t l) FUEL ([],[],0)=_ from eF hr (by unfold FUEL;omega)];rfl
   ·rw [ha,show aC (di p t l) FUEL ([],[],0)=_ from eF hr (by unfold FUEL;omega)]
    simp only [Option.bind_some,cond_false]
    rw [List.any_eq_false]at ha
    have hv: ∀y∈l,VS p y:=fun y hy=>(jW (FN (by simpa using ha y hy)).1).2.1
    rw [Gn,Option.bind_some,hk.has h2]
    cases decide (s∈l)with
    |false=>rfl
    |true=>
     simp only [Bool.not_true,cond_false]
     rw [aaL h1 h3 hst (by omega) hk hv]
     cases l.any (fun y=>t.allowed.any (yt p t l y))<;>rfl
 ·rw [if_pos h];simp [h]
theorem J9 {p:aj} (hp:Small p) (s:State) {t:Task} (hst:kL t) (l:List State):uy p s t l=some (Fb p s t l):=by
 unfold uy Fb
 rw [j4 hp s hst,Option.bind_some]
 by_cases h:qH p s t=0
 ·obtain⟨h1,h2,h3,h4⟩:=jW h
  rw [if_neg (by simp [h]),h]
  simp only [decide_true,Bool.not_true,cond_false]
  by_cases hl:20000<l.length
  ·rw [if_pos hl,decide_eq_true (show(20000:Int)<(l.length:Int) by omega),cond_true]
  ·rw [if_neg hl,decide_eq_false (show ¬ (20000:Int)<(l.length:Int) by omega),cond_false,Wn h1 h3 hst (by omega)]
   cases ha:l.any (Aa p t)with
   |true=>rfl
   |false=>
    simp only [Option.bind_some,cond_false]
    rw [List.any_eq_false]at ha
    have hv: ∀y∈l,VS p y:=fun y hy=>(jW (FN (by simpa using ha y hy)).1).2.1
    obtain⟨ri,ri1,ri2⟩:=GA (l:=l) (by omega) (fun x hx=>VS.room h1 (hv x hx)) s
    rw [ri1,Option.bind_some]
    have:decide (ri<0)= !decide (s∈l):=by
     rw [Bool.eq_iff_iff,decide_eq_true_iff,Bool.not_eq_true',decide_eq_false_iff_not,←ri2];omega
    rw [this]
    cases decide (s∈l)with
    |false=>rfl
    |true=>
     simp only [Bool.not_true,cond_false]
     rw [Xn h1 h3 hst (by omega) hv]
     cases l.any (fun y=>t.allowed.any (yt p t l y))<;>rfl
 ·rw [if_pos h];simp [h]
def Fa:aj:=⟨3,[⟨0,1,500,0,20⟩],[⟨0,1,3,400,10,[]⟩,⟨1,2,2,400,10,[]⟩],[⟨⟨2, -1⟩,100,1⟩]⟩
def BF:State:=⟨[true,true],List.replicate 2 false,List.replicate 2 false,[true],List.replicate 1 false,List.replicate 3 false,List.replicate 3 false⟩
def exT:Task:=⟨[],[],[⟨1,0⟩,⟨2,0⟩,⟨1,1⟩,⟨2,1⟩],[⟨1,1⟩]⟩
def exU:Task:=⟨[0],[],[⟨1,0⟩,⟨2,0⟩,⟨1,1⟩,⟨2,1⟩],[⟨1,1⟩]⟩
theorem fE:Small Fa:=⟨by decide,by decide,by decide,fun x hx=>by
 simp only [Fa,List.mem_cons,List.not_mem_nil,or_false]at hx
 rcases hx with rfl|rfl<;>decide⟩
theorem JF:kL exT:=⟨by decide,by decide,by decide,by decide⟩
theorem Aj:kL exU:=⟨by decide,by decide,by decide,by decide⟩
theorem Zn:rW=some (Fa,BF):=by kernel_rfl
theorem ex1:sO Fa BF exT 100=some ([⟨1,0⟩,⟨1,1⟩],[],0):=by kernel_rfl
theorem ex2:sO Fa BF exU 100=some ([],[BF],4):=by kernel_rfl
theorem ex3:uy Fa BF exU [BF]=some 0:=by kernel_rfl
theorem abn:gy Fa BF exT 100=some ([⟨1,0⟩,⟨1,1⟩],[],0):=(O5 fE BF JF 100).trans ((Gg fE BF JF 100).symm.trans ex1)
theorem acp:gy Fa BF exU 100=some ([],[BF],4):=(O5 fE BF Aj 100).trans ((Gg fE BF Aj 100).symm.trans ex2)
theorem ach:jO Fa BF exU [BF]=some 0:=(Ps fE BF Aj [BF]).trans ((J9 fE BF Aj [BF]).symm.trans ex3)
theorem ex4:iI Fa BF ⟨1,1⟩=some (fQ,44):=by kernel_rfl
def exR:State:=⟨[false,false],List.replicate 2 false,List.replicate 2 false,[true],List.replicate 1 false,List.replicate 3 false,List.replicate 3 false⟩
def NS:State:=⟨[false,false],[false,true],List.replicate 2 false,[true],List.replicate 1 false,[false,false,true],List.replicate 3 false⟩
theorem ex5:jT Fa BF ⟨[],[],[],[]⟩ [⟨1,0⟩,⟨1,1⟩]=some (2,exR,0):=by kernel_rfl
theorem ex6:iI Fa NS ⟨2,1⟩=some (fQ,43):=by kernel_rfl
theorem ex7:jT Fa NS ⟨[],[2],[],[]⟩ [⟨6,1⟩]=some (0,fQ,45):=by kernel_rfl
theorem ex8:dz Fa NS ⟨[],[2],[],[]⟩=some 0:=by kernel_rfl
theorem ex9:gU [⟨1,0⟩,⟨1,1⟩] [⟨1,0⟩,⟨1,1⟩]=some true:=by kernel_rfl
theorem abX:bT exR.closed [false,false]=some true:=by kernel_rfl
theorem Nv {α:Type} {c:Bool} {a b:α} (h:c=false):(bif c then a else b)=b:=by rw [h];rfl
theorem R5 {α:Type} {c:Bool} {a b:α} (h:c=true):(bif c then a else b)=a:=by rw [h];rfl
theorem Nj:kL ⟨[],[],[],[]⟩:=⟨by decide,by decide,by decide,by decide⟩
theorem Dv:kL ⟨[],[2],[],[]⟩:=⟨by decide,by decide,by decide,by decide⟩
theorem abz:jI Fa BF ⟨1,1⟩=some (fQ,44):=(R4 fE BF _).trans ((Ht fE BF _).symm.trans ex4)
theorem abM:fD Fa BF ⟨[],[],[],[]⟩ [⟨1,0⟩,⟨1,1⟩]=some (2,exR,0):=(DR fE BF Nj _).trans ((xR fE BF Nj _).symm.trans ex5)
theorem abQ:jI Fa NS ⟨2,1⟩=some (fQ,43):=(R4 fE NS _).trans ((Ht fE NS _).symm.trans ex6)
theorem acj:fD Fa NS ⟨[],[2],[],[]⟩ [⟨6,1⟩]=some (0,fQ,45):=(DR fE NS Dv _).trans ((xR fE NS Dv _).symm.trans ex7)
theorem abd:fq Fa NS ⟨[],[2],[],[]⟩=some 0:=(uD fE NS Dv).trans ((j4 fE NS Dv).symm.trans ex8)
theorem FQ:nM=some true:=by
 unfold nM
 rw [Zn,Option.bind_some]
 dsimp only
 rw [show gy Fa BF (⟨([]:List Int),([]:List Int),[(⟨1,0⟩:af),(⟨2,0⟩:af),(⟨1,1⟩:af),(⟨2,1⟩:af)],[(⟨1,1⟩:af)]⟩:Task) 100=_ from abn,Option.bind_some,abz,Option.bind_some,Nv (by rfl),ex9,Option.bind_some,Nv (by rfl),abM,Option.bind_some,Nv (by rfl),abX,Option.bind_some,Nv (by rfl),
  show gy Fa BF (⟨[0],([]:List Int),[(⟨1,0⟩:af),(⟨2,0⟩:af),(⟨1,1⟩:af),(⟨2,1⟩:af)],[(⟨1,1⟩:af)]⟩:Task) 100=_ from acp,Option.bind_some,Nv (by rfl),
  show jO Fa BF (⟨[0],([]:List Int),[(⟨1,0⟩:af),(⟨2,0⟩:af),(⟨1,1⟩:af),(⟨2,1⟩:af)],[(⟨1,1⟩:af)]⟩:Task) [BF]=_ from ach,Option.bind_some,Nv (by rfl),av (by decide)]
 change Option.bind (jI Fa NS ⟨2,1⟩) _=_
 rw [abQ,Option.bind_some]
 change Option.bind (fD Fa NS ⟨[],[2],[],[]⟩ [⟨6,1⟩]) _=_
 rw [acj,Option.bind_some,R5 (by rfl)]
 change Option.bind (fq Fa NS ⟨[],[2],[],[]⟩) _=_
 rw [abd,Option.bind_some]
 rfl
theorem Ae (l:List af) (h:l.length≤9223372036854775807):gU l l=some true:=by
 unfold gU
 rw [decide_eq_true rfl]
 simp only [Bool.not_true,cond_false]
 have key:aC (kF l l) FUEL 0=some (.brk ()):= ?_
 ·rw [key];rfl
 refine zC l h (fun i hi=> ?_) (by unfold kF;simp)
 unfold kF
 simp only [Int.toNat_natCast]
 rw [wh (by omega),cond_true,av (by omega),wr (by omega)]
 simp
def UY (p:aj) (t:Task):Bool:=(bif (bif (bif (bif (bif (bif (decide (60<(p.sources.length:Int)))then true else(decide (60<(p.links.length:Int))))then true else(decide (60<(p.racks.length:Int))))then true else(decide (60<(t.fed.length:Int))))then true else(decide (60<(t.crew.length:Int))))then true else(decide (60<(t.allowed.length:Int))))then true else(decide (60<(t.goal.length:Int))))
theorem Xy (p:aj) (t:Task):zy p t=some (UY p t):=rfl
structure KJ (t:Task):Prop where
 f:t.fed.length≤60
 c:t.crew.length≤60
 a:t.allowed.length≤60
 g:t.goal.length≤60
structure XK (p:aj):Prop where
 s:p.sources.length≤60
 l:p.links.length≤60
 r:p.racks.length≤60
theorem N8 {p:aj} {t:Task} (h:UY p t=false):XK p∧KJ t:=by
 unfold UY at h
 simp only [eu,Bool.or_eq_false_iff,decide_eq_false_iff_not]at h
 obtain⟨⟨⟨⟨⟨⟨h1,h2⟩,h3⟩,h4⟩,h5⟩,h6⟩,h7⟩:=h
 exact⟨⟨by omega,by omega,by omega⟩,⟨by omega,by omega,by omega,by omega⟩⟩
theorem KJ.small {t:Task} (h:KJ t):kL t:=by
 obtain⟨h1,h2,h3,h4⟩:=h
 exact⟨by omega,by omega,by omega,by omega⟩
theorem EA (l:List Int) (h:l.length≤60):mq l=some l:=by
 unfold mq;rw [av (by omega)]
theorem xX (l:List af) (h:l.length≤1000):dW l=some l:=by
 unfold dW;rw [av (by omega)]
theorem XA {t:Task} (h:KJ t):vC t=some t:=by
 obtain⟨h1,h2,h3,h4⟩:=h
 unfold vC
 rw [EA _ h1,EA _ h2,xX _ (by omega),xX _ (by omega)]
 rfl
theorem E5 (x:af): ∃y,fJ x=some y:=by
 unfold fJ
 by_cases h:x.deed<1∨8<x.deed
 ·refine⟨x, ?_⟩
  rw [eu]
  have:(decide (x.deed<1)||decide (8<x.deed))=true:=by rw [Bool.or_eq_true,decide_eq_true_iff,decide_eq_true_iff];exact h
  rw [this];rfl
 ·rw [eu]
  have:(decide (x.deed<1)||decide (8<x.deed))=false:=by
   rw [Bool.or_eq_false_iff,decide_eq_false_iff_not,decide_eq_false_iff_not];exact⟨fun q=>h (.inl q),fun q=>h (.inr q)⟩
  rw [this,cond_false,av ⟨by omega,by show x.deed<((9:Nat):Int);omega⟩]
  exact⟨_,rfl⟩
end Sg

namespace Sg
open Go Go.ChangeShapes Go.WideShapes Go.RowKit Go.Deep
end Sg

namespace Sg
open Go Go.ChangeShapes Go.WideShapes Go.RowKit Go.Deep
structure Rz (P:Program) (t:TypeId) (n:Nat) {α:Type} (c:α→Nat→DV) (S:α→Prop):Prop where
 size:P.cellsOf t=n
 rd: ∀{H:Type} {enc:TypeId × Value→H} {w:World} {fuel:Nat} {cs:List Value} {x:DataW H × List MemPlace},DataW.trod enc P w 0 (fun _=>true) true fuel t cs=some x→(∀q∈x.1.weights P t,q≤reachBytes)→
  ∃a:α,S a∧cs.length=n∧ ∀j,j<n→ ∃u,cs[j]? =some u∧cu (AO w) w (c a j) u
section
variable {P:Program} {t e:TypeId}
theorem Rd.z {n:Nat} {α:Type} {c:α→Nat→DV} {S:α→Prop} (h:Rd P t n c S):Rz P t n c S:=⟨h.size,fun h1 _=>h.rd h1⟩
theorem qj {H:Type}: ∀{l:List (DataW H)} {d:DataW H} {q:Nat},d∈l→q∈d.weights P e→q∈DataW.weightsAll P e l
 |[],_,_,h,_=>by cases h
 |d::r,d',q,h,hq=>by
  unfold DataW.weightsAll
  rw [List.mem_append]
  rcases List.mem_cons.1 h with rfl|h
  ·exact .inl hq
  ·exact .inr (qj h hq)
open Classical in
theorem Rz.slice {n b:Nat} {α:Type} [Inhabited α] {c:α→Nat→DV} {S:α→Prop} (ht:P.underlying t=some (.slice e)) (hs:P.cellsOf t=1) (hn:0<n) (hb:P.bytesOf e=b) (he:Rz P e n c S):Rz P t 1 (UL n c) (fun l=>l.length≤9223372036854775807∧(∀x∈l,S x)∧l.length*b≤140737488351232):=by
 refine⟨hs,fun{H enc w fuel cs x} h hz=> ?_⟩
 rcases open_slice ht h with⟨rfl,_⟩|⟨a,len,cap,m,fu,D,Pl,rfl,hbl,hl,hm,hmm,hxx,hx⟩
 ·refine⟨[],⟨by simp,by simp,by simp⟩,rfl,fun j hj=> ?_⟩
  have:j=0:=by omega
  subst this
  exact⟨_,rfl,none,0,rfl,by simp,by simp,by simp,Nat.le_refl _,by simp⟩
 ·simp only [if_true]at hmm
  subst hmm
  have hwt:x.1.weights P t=(((List.range len).map D).length+((List.range (m - len)).map fun j=>D (len+j)).length)*P.bytesOf e::(DataW.weightsAll P e ((List.range len).map D)++DataW.weightsAll P e ((List.range (m - len)).map fun j=>D (len+j))):=by
   rw [hxx];simp only [DataW.weights,ht]
  rw [hwt]at hz
  have hzi: ∀i,i<m→ ∀q∈(D i).weights P e,q≤reachBytes:=fun i hi q hq=>by
   refine hz q (List.mem_cons_of_mem _ (List.mem_append.2 ?_))
   by_cases h1:i<len
   ·exact .inl (qj (List.mem_map.2 ⟨i,List.mem_range.2 h1,rfl⟩) hq)
   ·exact .inr (qj (List.mem_map.2 ⟨i - len,List.mem_range.2 (by omega),by rw [show len+(i - len)=i by omega]⟩) hq)
  have hz0:len*b≤140737488351232:=by
   have:=hz _ List.mem_cons_self
   rw [List.length_map,List.length_map,List.length_range,List.length_range,hb,show len+(m - len)=m by omega]at this
   have h2:len*b≤m*b:=Nat.mul_le_mul_right _ hl
   have h3:reachBytes=140737488351232:=by decide
   omega
  have hel: ∀i,i<m→ ∃y:α,S y∧ ∀j,j<n→a.spot=none∧ ∃u,w.cell? ⟨a.block,a.off+(i*n+j),none⟩=some u∧cu (AO w) w (c y j) u:=by
   intro i hi
   obtain⟨cs',h1,h2⟩:=hx i hi
   rw [he.size]at h1
   obtain⟨y,hy,hlen,hc⟩:=he.rd h2 (hzi i hi)
   obtain⟨_,hcl,hat⟩:=World.cells?_some h1
   obtain⟨cs0,h10,h20⟩:=hx 0 (by omega)
   rw [he.size]at h10
   obtain⟨y0,_,hlen0,hc0⟩:=he.rd h20 (hzi 0 (by omega))
   obtain⟨_,_,hat0⟩:=World.cells?_some h10
   obtain⟨u0,hu0,_⟩:=hc0 0 hn
   have hsp:a.spot=none:=by
    have:=(hat0 0 hn).trans hu0
    simp only [Nat.zero_mul]at this
    have h3:=cell_spot this
    simpa [Addr.add]using h3
   refine⟨y,hy,fun j hj=> ⟨hsp, ?_⟩⟩
   obtain⟨u,hu,hr⟩:=hc j hj
   refine⟨u, ?_,hr⟩
   have:=(hat j hj).trans hu
   rw [qy hsp,qy rfl]at this
   rw [←this];simp only [Nat.add_assoc]
  let pick:Nat→α:=fun i=>if h:i<m then Classical.choose (hel i h)else default
  have hpick: ∀i,i<m→S (pick i)∧ ∀j,j<n→a.spot=none∧ ∃u,w.cell? ⟨a.block,a.off+(i*n+j),none⟩=some u∧cu (AO w) w (c (pick i) j) u:=by
   intro i hi
   show S (dite _ _ _)∧_
   simp only [pick,dif_pos hi]
   exact Classical.choose_spec (hel i hi)
  let l:List α:=(List.range len).map pick
  have hll:l.length=len:=by simp [l]
  have hat: ∀i,i<len→at' l i=pick i:=fun i hi=>by simp [at',l,hi]
  refine⟨l,⟨by rw [hll];exact Nat.le_trans (Nat.le_trans hl hm) (by decide),fun x hx=> ?_,by rw [hll];exact hz0⟩,rfl,fun j hj=> ?_⟩
  ·obtain⟨i,hi,rfl⟩:=List.mem_map.mp hx
   exact(hpick i (Nat.lt_of_lt_of_le (List.mem_range.mp hi) hl)).1
  ·have:j=0:=by omega
   subst this
   refine⟨_,rfl,some a,m, ?_,by simp,by simp,by simp,by rw [hll];exact hl,fun ad ha=> ?_⟩
   ·simp [hll]
   ·cases ha
    refine⟨fun h0=> ?_,fun i hi j hj=> ?_⟩
    ·exact((hpick 0 (by omega)).2 0 hn).1
    ·rw [hll]at hi
     obtain⟨_,u,hu,hr⟩:=(hpick i (by omega)).2 j hj
     exact⟨OV hu,u,hu,by show cu _ _ (c (at' l i) j) u;rw [hat i hi];exact hr⟩
theorem Rz.fields {fs:Array Field} {n:Nat} (ht:P.underlying t=some (.struct fs)) (hs:P.cellsOf t=n) {H:Type} {enc:TypeId × Value→H} {w:World} {fuel:Nat} {cs:List Value} {x:DataW H × List MemPlace}
  (h:DataW.trod enc P w 0 (fun _=>true) true fuel t cs=some x) (hz: ∀q∈x.1.weights P t,q≤reachBytes):cs.length=n∧ ∀(i:Nat) (f:Field),fs[i]? =some f→ ∃y,DataW.trod enc P w 0 (fun _=>true) true (fuel - 1) f.type ((cs.drop f.offset).take (P.cellsOf f.type))=some y∧ ∀q∈y.1.weights P f.type,q≤reachBytes:=by
 obtain⟨xs,m,rfl,hx,hl,hxl,hf⟩:=DataW.trod_struct ht h
 have hd:x.1= .agg (xs.map (·.1)):=congrArg Prod.fst hx
 refine⟨by rw [hl,hs],fun i f hi=> ?_⟩
 have hlt:=(Array.getElem?_eq_some_iff.mp hi).1
 have h1:=hf i f hi
 rw [List.getElem?_eq_getElem (by omega)]at h1
 refine⟨_,h1,fun q hq=>hz q ?_⟩
 rw [hd]
 simp only [DataW.weights,ht]
 refine DataW.weights_mem_each (j:=i) (t:=f.type) (d:=(xs[i]'(by omega)).1) ?_ ?_ _ hq
 ·rw [List.getElem?_map];simp [hi]
 ·rw [List.getElem?_map,List.getElem?_eq_getElem (by omega)];rfl
theorem Rz.field {n off:Nat} {α:Type} {c:α→Nat→DV} {S:α→Prop} (he:Rz P e n c S) {H:Type} {enc:TypeId × Value→H} {w:World} {fuel:Nat} {cs:List Value}
  (h: ∃y,DataW.trod enc P w 0 (fun _=>true) true fuel e ((cs.drop off).take (P.cellsOf e))=some y∧ ∀q∈y.1.weights P e,q≤reachBytes): ∃a:α,S a∧ ∀j,j<n→ ∃u,cs[off+j]? =some u∧cu (AO w) w (c a j) u:=by
 obtain⟨y,hy,hz⟩:=h
 rw [he.size]at hy
 obtain⟨a,ha,hl,hc⟩:=he.rd hy hz
 exact⟨a,ha,Ev hc⟩
theorem Rz.elems {m n:Nat} (ht:P.underlying t=some (.array m e)) (hs:P.cellsOf t=n) {H:Type} {enc:TypeId × Value→H} {w:World} {fuel:Nat} {cs:List Value} {x:DataW H × List MemPlace}
  (h:DataW.trod enc P w 0 (fun _=>true) true fuel t cs=some x) (hz: ∀q∈x.1.weights P t,q≤reachBytes):cs.length=n∧ ∀(i:Nat),i<m→ ∃y,DataW.trod enc P w 0 (fun _=>true) true (fuel - 1) e ((cs.drop (i*P.cellsOf e)).take (P.cellsOf e))=some y∧ ∀q∈y.1.weights P e,q≤reachBytes:=by
 obtain⟨xs,q,rfl,hx,hl,hxl,hf⟩:=DataW.trod_array ht h
 have hd:x.1= .agg (xs.map (·.1)):=congrArg Prod.fst hx
 refine⟨by rw [hl,hs],fun i hi=> ?_⟩
 have h1:=hf i hi
 rw [List.getElem?_eq_getElem (by omega)]at h1
 refine⟨_,h1,fun q hq=>hz q ?_⟩
 rw [hd]
 simp only [DataW.weights,ht]
 exact qj (List.mem_map.2 ⟨_,List.getElem_mem _,rfl⟩) hq
theorem Rz.agg {n:Nat} {α:Type} {c:α→Nat→DV} {S:α→Prop} (hr:Rz P t n c S) {fs:Array Field} (ht:P.underlying t=some (.struct fs)) {W:World} {b0:Nat} {v:Value} (hv:Value.okWide P W .any b0 t v)
  {H:Type} {enc:TypeId × Value→H} {d:DataW H} {ps:List MemPlace} (h:DataW.Trod enc P W 0 (fun _=>true) true t v d ps) (hz: ∀q∈d.weights P t,q≤reachBytes):
  ∃a:α,S a∧gN (fun _=>none) (AO W) W (.agg ((List.range n).map fun j=> .d (c a j))) v:=by
 obtain⟨cs,rfl,hsz⟩:=okWide_struct ht hv
 obtain⟨fuel,hf⟩:=h
 obtain⟨a,ha,hl,hc⟩:=hr.rd hf hz
 refine⟨a,ha,cs.toList,by simp,bS.pU (by rw [List.length_map,List.length_range];exact hl) fun j x hx=> ?_⟩
 have hj:j<n:=by
  have:=(List.getElem?_eq_some_iff.mp hx).1
  simpa using this
 obtain⟨u,hu,hru⟩:=hc j hj
 refine⟨u,hu, ?_⟩
 simp [hj]at hx
 subst hx
 exact hru
theorem Rz.one {α:Type} {c:α→Nat→DV} {S:α→Prop} (hr:Rz P t 1 c S) {W:World} {v:Value} (hv:v.cells.toList=[v])
  {H:Type} {enc:TypeId × Value→H} {d:DataW H} {ps:List MemPlace} (h:DataW.Trod enc P W 0 (fun _=>true) true t v d ps) (hz: ∀q∈d.weights P t,q≤reachBytes): ∃a:α,S a∧gN (fun _=>none) (AO W) W (.one (.d (c a 0))) v:=by
 obtain⟨fuel,hf⟩:=h
 rw [hv]at hf
 obtain⟨a,ha,hl,hc⟩:=hr.rd hf hz
 obtain⟨u,hu,hru⟩:=hc 0 (by omega)
 simp at hu;subst hu
 exact⟨a,ha,hru⟩
end
def GI (c:List Bool):Nat→List Bool
 |0=>c
 |n+1=>(GI c n).set n (!(at' (GI c n) n))
theorem xk (c:List Bool): ∀n,(GI c n).length=c.length
 |0=>rfl
 |n+1=>by unfold GI;rw [List.length_set,xk c n]
theorem YT (c:List Bool) (h:c.length≤9223372036854775807): ∃d,aC dI FUEL (c,0)=some (.brk d):=by
 refine⟨GI c c.length, ?_⟩
 refine cZ (body:=dI) (fun i=>(GI c i,(i:Int))) c.length _ (fuel_lt h) (fun i hi=> ?_) ?_
 ·unfold dI
  simp only [Int.toNat_natCast]
  rw [xk,wh (by omega),cond_true,av (by omega),wr (by omega)]
  rfl
 ·unfold dI
  simp [xk]
theorem aaH (c:List Bool) (h:c.length≤9223372036854775807):aC dK FUEL (c,0)=some (.brk ()):=by
 refine cZ (body:=dK) (fun i=>(GI c i,(i:Int))) c.length _ (fuel_lt h) (fun i hi=> ?_) ?_
 ·unfold dK
  simp only [Int.toNat_natCast]
  rw [xk,wh (by omega),cond_true,av (by omega),wr (by omega)]
  rfl
 ·unfold dK
  simp [xk]
noncomputable def Wu (x:af):af:=(fJ x).getD default
theorem JH (x:af):fJ x=some (Wu x):=by
 obtain⟨y,hy⟩:=E5 x
 unfold Wu;rw [hy];rfl
noncomputable def CQ (l:List af) (k:Nat):List af:=tab k fun i=>Wu (at' l (l.length - 1 - i))
theorem Ja {α:Type} [Inhabited α] (n:Nat) (f:Nat→α):tab (n+1) f=tab n f++[f n]:=by
 refine nH (by simp [aP]) fun i hi=> ?_
 rw [aP]at hi
 rw [gT hi]
 by_cases h:i<n
 ·rw [vG (by rw [aP];exact h),gT h]
 ·have:i=n:=by omega
  subst this
  have:=xQ (tab i f) (f i)
  rw [aP]at this;rw [this]
theorem X7 (l:List af) (hl:l.length≤1000):oh l=some (CQ l l.length):=by
 have key:aC (fV l) FUEL (CQ l 0,(l.length:Int) - 1 - ((0:Nat):Int))=some (.brk (CQ l l.length)):=by
  refine cZ (body:=fV l) (fun k=>(CQ l k,(l.length:Int) - 1 - (k:Int))) l.length _ (fuel_lt (by omega)) (fun k hk=> ?_) ?_
  ·unfold fV
   simp only
   have hlen:(CQ l k).length=k:=aP _ _
   rw [decide_eq_true (show(0:Int)≤(l.length:Int) - 1 - (k:Int) by omega),cond_true,JH,Option.bind_some,av ⟨by omega,by rw [hlen,List.length_singleton];omega,by rw [hlen,List.length_singleton];omega⟩,wr (by omega),show((l.length:Int) - 1 - (k:Int)).toNat=l.length - 1 - k by omega]
   unfold CQ
   rw [Ja,show(l.length:Int) - 1 - (k:Int) - 1=(l.length:Int) - 1 - ((k+1:Nat):Int) by omega]
  ·unfold fV
   simp only
   rw [decide_eq_false (show ¬ (0:Int)≤(l.length:Int) - 1 - (l.length:Int) by omega),cond_false]
 unfold oh
 rw [wr (by omega)]
 have e:(l.length:Int) - 1 - ((0:Nat):Int)=(l.length:Int) - 1:=by omega
 rw [e]at key
 rw [show aC (fV l) FUEL ([],(l.length:Int) - 1)=_ from key];rfl
theorem rev_eq (l:List af) (hl:l.length≤1000):oD l=some (CQ l l.length):=by
 have key:aC (dX l) FUEL (CQ l 0,(l.length:Int) - 1 - ((0:Nat):Int))=some (.brk (CQ l l.length)):=by
  refine cZ (body:=dX l) (fun k=>(CQ l k,(l.length:Int) - 1 - (k:Int))) l.length _ (fuel_lt (by omega)) (fun k hk=> ?_) ?_
  ·unfold dX mg
   simp only
   have hlen:(CQ l k).length=k:=aP _ _
   rw [decide_eq_true (show(0:Int)≤(l.length:Int) - 1 - (k:Int) by omega),cond_true,Oh,JH,Option.bind_some,av ⟨by rw [hlen,List.length_singleton];omega,by rw [hlen,List.length_singleton];omega⟩,Option.bind_some,av (by omega),wr (by omega),show((l.length:Int) - 1 - (k:Int)).toNat=l.length - 1 - k by omega]
   unfold CQ
   rw [Ja,show(l.length:Int) - 1 - (k:Int) - 1=(l.length:Int) - 1 - ((k+1:Nat):Int) by omega]
  ·unfold dX
   simp only
   rw [decide_eq_false (show ¬ (0:Int)≤(l.length:Int) - 1 - (l.length:Int) by omega),cond_false]
 unfold oD pR
 rw [Option.bind_some]
 unfold nJ
 rw [wr (by omega)]
 have e:(l.length:Int) - 1 - ((0:Nat):Int)=(l.length:Int) - 1:=by omega
 rw [e]at key
 rw [show aC (dX l) FUEL ([],(l.length:Int) - 1)=_ from key];rfl
theorem tQ:yF fQ:=⟨by decide,by decide,by decide,by decide,by decide,by decide,by decide⟩
theorem RG {p:aj} (s:State) (x:af):yF (XY p s x).1:=by
 unfold XY
 by_cases h:jX p s=0
 ·rw [if_neg (by simp [h])]
  obtain⟨h1,h2⟩:=eH.mp h
  by_cases h0:IC p s x=0
  ·unfold GX;rw [if_pos h0];exact VS.room h1 (VS.Yf h1 h2 (xw h0).1)
  ·unfold GX;rw [if_neg h0];exact tQ
 ·rw [if_pos h];exact tQ
theorem I8 {p:aj} (hp:VP p) {t:Task} {l:List af}: ∀(n i:Nat) (s:State),VS p s→yF (sH p t l s i n).2.1
 |0,i,s,h=>VS.room hp h
 |n+1,i,s,h=>by
  unfold sH
  split
  ·rename_i h0
   have hn:=uU hp h h0
   exact I8 hp n (i+1) _ (by rw [hn.2.1];exact hn.2.2.1)
  ·exact tQ
theorem Qk {p:aj} (s:State) (t:Task) (l:List af):yF (Ii p s t l).2.1:=by
 unfold Ii
 by_cases h:qH p s t=0
 ·obtain⟨h1,h2,h3,h4⟩:=jW h
  rw [if_neg (by simp [h])]
  split
  ·exact tQ
  ·exact I8 h1 _ _ _ h2
 ·rw [if_pos h];exact tQ
theorem Ce {p:aj} (s:State) (t:Task) (x:af) (l:List af) (hp:Small p) (htr: ∀x∈p.links,x.trip.length≤8796093021952) (hr:yF s):iM p s t x l=some true:=by
 unfold iM
 rw [Xy,Option.bind_some]
 generalize hc:(bif UY p t then true else(decide (300<(l.length:Int))))=c
 cases c with
 |true=>rw [cond_true,FQ];rfl
 |false=>
  simp only [eu,Bool.or_eq_false_iff]at hc
  obtain⟨hb,hl⟩:=hc
  have hl:=of_decide_eq_false hl
  obtain⟨⟨q1,q2,q3⟩,h7⟩:=N8 hb
  have hst:=h7.small
  rw [cond_false,Hf p q1 q2 q3 htr,Option.bind_some,H9 s hr,Option.bind_some,xX l (by omega),Option.bind_some,R4 hp,Option.bind_some,Ht hp,Option.bind_some,uX _ (RG s x)]
  simp only [decide_true,gB]
  simp only [Bool.not_true,Option.bind_some,cond_false,cond_true,Bool.and_true,beq_self_eq_true]
  rw [XA h7,Option.bind_some,DR hp s hst,Option.bind_some,xR hp s hst,Option.bind_some]
  have hv:=Qk (p:=p) s t l
  obtain⟨d,hd⟩:=YT (Ii p s t l).2.1.locked (by have:=hv.l1;omega)
  have he:=aaH (Ii p s t l).2.1.earthed (by have:=hv.l5;omega)
  have hlen:(CQ l l.length).length≤1000:=by rw [CQ,aP];omega
  rw [R5 (by simp [gB]),uX _ hv,Option.bind_some,R5 (by simp [gB]),rev_eq l (by omega),Option.bind_some,R5 (by simp [gB]),X7 l (by omega),Option.bind_some,R5 (by simp [gB]),Ae _ (by omega),Option.bind_some,Nv (by simp)]
  revert hd he
  generalize aC dI FUEL ((Ii p s t l).2.1.locked,0)=o0
  generalize aC dK FUEL ((Ii p s t l).2.1.earthed,0)=o1
  intro hd he
  subst hd
  subst he
  rw [Option.bind_some]
  simp only
  rw [Option.bind_some]
  simp only
  rw [Hy p q1 q2 q3 htr,uX _ hr,Ae _ (by omega),FQ]
  simp [gB]
end Sg
