import Derived.Test.YtboodeobmgjjpaaGreatSaLe
import Derived.KernelRfl
import Derived.Test.YtboodeobmgjjpaaGreatSaLc
import Derived.SizedLaws
set_option linter.all false
namespace Sg
open Go
abbrev PR:=Nat × List af × List State × Int × Int × Search
def Xv (p:aj) (o:Option (Ex (List Reached × List (List Bool × Bool) × Int) PR)):Out→Prop
 | .go ls fb=> ∃kn,Kn p ls kn∧o=some (.brk (rL ls fb,kn, -1))
 | .large=> ∃f x,o=some (.ret (3,[],[],8,f,x))
 | .found ls fb=> ∃kn,Kn p ls kn∧(o=some (.ret (2,[],[],0,(ls.length:Int) - 1,⟨rL ls fb,kn⟩))∨o=some (.brk (rL ls fb,kn,(ls.length:Int) - 1)))
section
variable {p:aj} (hp:VP p) {t:Task} (ht:mD p t=true) {most:Int} (hm:1≤most∧most≤20000)
include hp ht hm
theorem ED {now:State} (hn:VS p now) (i:Nat): ∀(n k:Nat) (ls:List State) (fb:List (Int × af)) (kn:List (List Bool × Bool)),Rc p most ls fb→i<ls.length→Kn p ls kn→k+n=t.allowed.length→
  ∃m,m≤n+2∧Xv p (aB (bP (i:Int) now.closed now.locked now.badLink now.on_ now.badSource now.earthed now.badBus p t most [] [] 0) m (rL ls fb,kn, -1,(k:Int))) (Mv p t most now i n k ls fb)
 |0,k,ls,fb,kn,h,hi,hk,hkn=>by
  refine⟨1,by omega,kn,hk, ?_⟩
  have:decide ((k:Int)<(t.allowed.length:Int))=false:=decide_eq_false (by omega)
  rw [aG]
  unfold bP
  simp only [this,cond_false]
 |n+1,k,ls,fb,kn,h,hi,hk,hkn=>by
  obtain⟨_,_,⟨al,ax⟩,⟨gl,gx⟩⟩:=dL ht
  have hb:bP (i:Int) now.closed now.locked now.badLink now.on_ now.badSource now.earthed now.badBus p t most [] [] 0 (rL ls fb,kn, -1,(k:Int))=
    (bif (!decide ((nextR p now t (at' t.allowed k)).2=0))then some (.next (rL ls fb,kn, -1,((k+1:Nat):Int)))else
     (dO (nextR p now t (at' t.allowed k)).1 (i:Int) (at' t.allowed k) ⟨rL ls fb,kn⟩).bind fun r_1=>
      bif (!r_1.1)then some (.next (r_1.2.l,r_1.2.known, -1,((k+1:Nat):Int)))else
      bif (decide (most<(r_1.2.l.length:Int)))then some (.done (.ret (3,([]:List af),([]:List State),8, -1,r_1.2)))else
      (mr (nextR p now t (at' t.allowed k)).1 t.goal).bind fun r_2=>
      bif r_2 then some (.next (r_1.2.l,r_1.2.known,(IntKind.wrap .i64 ((r_1.2.l.length:Int) - 1)),((k+1:Nat):Int)))else some (.next (r_1.2.l,r_1.2.known, -1,((k+1:Nat):Int)))):=by
   unfold bP
   simp only [Int.toNat_natCast]
   rw [rJ (by omega),cond_true,av (by omega)]
   have h0:decide ((0:Int)≤ -1)=false:=by decide
   rw [h0,cond_false,show(⟨now.closed,now.locked,now.badLink,now.on_,now.badSource,now.earthed,now.badBus⟩:State)=now from rfl,Jy hp hn ht,Option.bind_some,wr (x:=(k:Int)+1) (by omega)]
   rfl
  unfold Mv
  by_cases h1:(nextR p now t (at' t.allowed k)).2=0
  ·have hv:=qF hp hn h1
   have hvs:VS p (nextR p now t (at' t.allowed k)).1:=by rw [hv.2.1];exact hv.2.2.1
   rw [if_neg (by simp [h1])]
   have hll:=h.most
   rw [h1,decide_eq_true rfl,Bool.not_true,cond_false,add_eq (x:=⟨rL ls fb,kn⟩) hk hvs (i:Int) (at' t.allowed k) (by show(rL ls fb).length≤_;rw [om];omega),Option.bind_some]at hb
   by_cases h2:(nextR p now t (at' t.allowed k)).1∈ls
   ·rw [if_pos h2]
    rw [decide_eq_true h2]at hb
    simp only [cond_true,Bool.not_false]at hb
    obtain⟨m,hm1,hm2⟩:=ED hn i n (k+1) ls fb kn h hi hk (by omega)
    refine⟨m+1,by omega, ?_⟩
    rw [aG,hb];exact hm2
   ·rw [if_neg h2]
    rw [decide_eq_false h2]at hb
    simp only [cond_false,Bool.not_true]at hb
    simp only [VU h.len,om]at hb
    by_cases h3:most<((ls++[(nextR p now t (at' t.allowed k)).1]).length:Int)
    ·rw [if_pos h3]
     rw [decide_eq_true h3,cond_true]at hb
     exact⟨1,by omega,_,_,by rw [aG,hb]⟩
    ·rw [if_neg h3]
     rw [decide_eq_false h3,cond_false,JP hvs (by omega) gx,Option.bind_some]at hb
     have hr:=h.add hvs hi (x:=at' t.allowed k) (by omega)
     have hkn2:=hk.add hp hvs
     have hlen:((ls++[(nextR p now t (at' t.allowed k)).1]).length:Int)≤20000:=by omega
     cases h4:Ce (nextR p now t (at' t.allowed k)).1 t.goal with
     |true=>
      rw [if_pos rfl]
      rw [h4,cond_true,wr (by omega)]at hb
      by_cases h5:k+1<t.allowed.length
      ·refine⟨2,by omega,_,hkn2, .inl ?_⟩
       rw [aG,hb]
       simp only
       rw [aG]
       unfold bP
       simp only [Int.toNat_natCast]
       rw [rJ (by omega),cond_true,av (by omega)]
       have hps:=hr.pos
       rw [decide_eq_true (show(0:Int)≤((ls++[(nextR p now t (at' t.allowed k)).1]).length:Int) - 1 by omega)]
       rfl
      ·refine⟨2,by omega,_,hkn2, .inr ?_⟩
       rw [aG,hb]
       simp only
       rw [aG]
       unfold bP
       have:decide (((k+1:Nat):Int)<(t.allowed.length:Int))=false:=decide_eq_false (by omega)
       simp only [this,cond_false]
     |false=>
      rw [if_neg (by simp)]
      rw [h4,cond_false]at hb
      obtain⟨m,hm1,hm2⟩:=ED hn i n (k+1) _ _ _ hr (by simp;omega) hkn2 (by omega)
      refine⟨m+1,by omega, ?_⟩
      rw [aG,hb];exact hm2
  ·rw [if_pos h1]
   rw [decide_eq_false h1,Bool.not_false,cond_true]at hb
   obtain⟨m,hm1,hm2⟩:=ED hn i n (k+1) ls fb kn h hi hk (by omega)
   refine⟨m+1,by omega, ?_⟩
   rw [aG,hb];exact hm2
theorem Gd {now:State} (i:Int) {f:Int} (hf:0≤f) (x:Search):dm i now.closed now.locked now.badLink now.on_ now.badSource now.earthed now.badBus p t most [] [] 0 f x=
  some (if t.allowed=[]then(0,[],[],0,f,x)else(2,[],[],0,f,x)):=by
 obtain⟨_,_,⟨al,ax⟩,_⟩:=dL ht
 unfold dm
 have hF: ∃k,FUEL=k+1:=⟨1180591620717411303423,rfl⟩
 obtain⟨k,hk⟩:=hF
 rw [hk,aG]
 unfold bP
 by_cases h:t.allowed=[]
 ·rw [if_pos h]
  have:decide ((0:Int)<(t.allowed.length:Int))=false:=decide_eq_false (by rw [h];simp)
  simp only [this,cond_false]
  rfl
 ·rw [if_neg h]
  have hpos:=List.length_pos_iff.2 h
  simp only
  rw [rJ (by omega),cond_true,av (by omega),decide_eq_true hf]
  rfl
def Zl (p:aj) (o:Option (Ex (List af × List State × Int × List Reached × List (List Bool × Bool) × Int) PR)):Out→Prop
 | .go ls fb=> ∃kn,o=some (.brk ([],[],0,rL ls fb,kn, -1))
 | .large=> ∃f x,o=some (.ret (3,[],[],8,f,x))
 | .found ls fb=> ∃kn,o=some (.ret (2,[],[],0,(ls.length:Int) - 1,⟨rL ls fb,kn⟩))
omit hp ht hm in
noncomputable def Qf (p:aj) (t:Task) (most:Int):Nat→Nat→List State→List (Int × af)→Out
 |0,_,ls,fb=> .go ls fb
 |F+1,i,ls,fb=>if i<ls.length then(match Mv p t most (at' ls i) i t.allowed.length 0 ls fb with| .go ls' fb'=>Qf p t most F (i+1) ls' fb'| .large=> .large| .found ls' fb'=> .found ls' fb')else .go ls fb
theorem OE {now:State} (i:Nat): ∀(n k:Nat) (ls:List State) (fb:List (Int × af)) (ls':List State) (fb':List (Int × af)),k+n=t.allowed.length→Mv p t most now i n k ls fb= .found ls' fb'→t.allowed≠[]
 |0,_,_,_,_,_,_,h=>by unfold Mv at h;cases h
 |n+1,k,ls,fb,ls',fb',hk,h=>by intro e;rw [e]at hk;simp at hk
theorem Od: ∀(F i:Nat) (ls:List State) (fb:List (Int × af)) (kn:List (List Bool × Bool)),Rc p most ls fb→i≤ls.length→Kn p ls kn→most<(i:Int)+(F:Int)→
  ∃m,m≤F+2∧Zl p (aB (bg p t most) m ([],[],0,rL ls fb,kn, -1,(i:Int))) (Qf p t most F i ls fb)
 |0,i,ls,fb,kn,h,hi,hk,hF=>by have:=h.most;omega
 |F+1,i,ls,fb,kn,h,hi,hk,hF=>by
  have hll:=h.most
  by_cases hlt:i<ls.length
  ·have hn:VS p (at' ls i):=h.vs _ (at_mem hlt)
   have hs:(at' (rL ls fb) i).s_=at' ls i:=by unfold rL;rw [gT hlt]
   obtain⟨m0,hm0,hres⟩:=ED hp ht hm hn i t.allowed.length 0 ls fb kn h hlt hk (by omega)
   have hal:=(dL ht).2.2.1.1
   have hY: ∀r,dm (i:Int) (at' ls i).closed (at' ls i).locked (at' ls i).badLink (at' ls i).on_ (at' ls i).badSource (at' ls i).earthed (at' ls i).badBus p t most [] [] 0 (-1) ⟨rL ls fb,kn⟩=some r→
     bg p t most ([],[],0,rL ls fb,kn, -1,(i:Int))=(bif (Nat.beq r.1 0)then some (.next (r.2.1,r.2.2.1,r.2.2.2.1,r.2.2.2.2.2.l,r.2.2.2.2.2.known,r.2.2.2.2.1,((i+1:Nat):Int)))else some (.done (.ret (r.1,r.2.1,r.2.2.1,r.2.2.2.1,r.2.2.2.2.1,r.2.2.2.2.2)))):=by
    intro r hr
    unfold bg
    simp only [Int.toNat_natCast,hs]
    rw [rJ (by rw [om];omega),cond_true,hr,Option.bind_some,av (by rw [om];omega),av (by rw [om];omega),wr (by omega)]
    rfl
   have hE: ∀o,aB (bP (i:Int) (at' ls i).closed (at' ls i).locked (at' ls i).badLink (at' ls i).on_ (at' ls i).badSource (at' ls i).earthed (at' ls i).badBus p t most [] [] 0) m0 (rL ls fb,kn, -1,((0:Nat):Int))=some o→
     aB (bP (i:Int) (at' ls i).closed (at' ls i).locked (at' ls i).badLink (at' ls i).on_ (at' ls i).badSource (at' ls i).earthed (at' ls i).badBus p t most [] [] 0) FUEL (rL ls fb,kn, -1,0)=some o:=fun o ho=>dN ho (by unfold FUEL;omega)
   have hok:=DU hp ht hm hn i t.allowed.length 0 ls fb h hlt
   have hfd:=OE (now:=at' ls i) hp ht hm i t.allowed.length 0 ls fb
   unfold Qf
   rw [if_pos hlt]
   revert hres hok hfd
   cases Mv p t most (at' ls i) i t.allowed.length 0 ls fb with
   |go ls' fb'=>
    rintro ⟨kn',hk',ho⟩ hok _
    have hy:=hY (0,[],[],0, -1,⟨rL ls' fb',kn'⟩) (by unfold dm;rw [hE _ ho];rfl)
    obtain⟨m,hm1,hm2⟩:=Od F (i+1) ls' fb' kn' hok.1 (by have:=hok.2;omega) hk' (by omega)
    refine⟨m+1,by omega, ?_⟩
    rw [aG,hy]
    exact hm2
   |large=>
    rintro ⟨f,x,ho⟩ _ _
    have hy:=hY (3,[],[],8,f,x) (by unfold dm;rw [hE _ ho];rfl)
    exact⟨1,by omega,f,x,by rw [aG,hy];rfl⟩
   |found ls' fb'=>
    rintro ⟨kn',hk',ho⟩ hok hfd
    have hne:=hfd ls' fb' (by omega) rfl
    rcases ho with ho|ho
    ·have hy:=hY (2,[],[],0,(ls'.length:Int) - 1,⟨rL ls' fb',kn'⟩) (by unfold dm;rw [hE _ ho];rfl)
     exact⟨1,by omega,kn',by rw [aG,hy];rfl⟩
    ·have hy:=hY (0,[],[],0,(ls'.length:Int) - 1,⟨rL ls' fb',kn'⟩) (by unfold dm;rw [hE _ ho];rfl)
     refine⟨2,by omega,kn', ?_⟩
     have hlt2:=hok.2
     have hpos:=hok.1.pos
     rw [aG,hy]
     simp only [show Nat.beq 0 0=true from rfl,cond_true]
     rw [aG]
     have hs2:(at' (rL ls' fb') (i+1)).s_=at' ls' (i+1):=by unfold rL;rw [gT (by omega)]
     have hm2:=hok.1.most
     unfold bg
     simp only [Int.toNat_natCast,hs2]
     rw [rJ (by rw [om];omega),cond_true,Gd (now:=at' ls' (i+1)) hp ht hm _ (by omega),if_neg hne,Option.bind_some]
     simp only [show Nat.beq 2 0=false from rfl,cond_false]
     rw [av (by rw [om];omega)]
  ·refine⟨1,by omega, ?_⟩
   unfold Qf
   rw [if_neg hlt]
   refine⟨kn, ?_⟩
   have:decide ((i:Int)<((rL ls fb).length:Int))=false:=decide_eq_false (by rw [om];omega)
   rw [aG]
   unfold bg
   simp only [this,cond_false]
theorem R8: ∀(F i:Nat) (ls:List State) (fb:List (Int × af)),Rc p most ls fb→Vf p most 0 (Qf p t most F i ls fb)
 |0,_,ls,fb,h=> ⟨h,Nat.zero_le _⟩
 |F+1,i,ls,fb,h=>by
  unfold Qf
  by_cases hlt:i<ls.length
  ·rw [if_pos hlt]
   have hok:=DU hp ht hm (h.vs _ (at_mem hlt)) i t.allowed.length 0 ls fb h hlt
   revert hok
   cases Mv p t most (at' ls i) i t.allowed.length 0 ls fb with
   |go ls' fb'=>exact fun hok=>R8 F (i+1) ls' fb' hok.1
   |large=>exact fun _=>trivial
   |found ls' fb'=>exact fun hok=> ⟨hok.1,by have:=hok.2;omega⟩
  ·rw [if_neg hlt];exact⟨h,Nat.zero_le _⟩
end
theorem KS {p:aj} {s:State} (hs:VS p s) {most:Int} (hm:1≤most∧most≤20000) (x:af):Rc p most [s] [(-1,x)]:=
 ⟨fun u hu=>by rw [List.mem_singleton]at hu;rw [hu];exact hs,rfl,by simp,by simp;omega,fun j hj h0=>by simp at hj;omega⟩
theorem Fe {p:aj} {most:Int} {ls:List State} {fb:List (Int × af)} (h:Rc p most ls fb) (hm:most≤20000) {j:Nat} (hj:j<ls.length) (kn:List (List Bool × Bool)):
  bX (j:Int) ⟨rL ls fb,kn⟩=some (path fb j):=by
 have hll:=h.most;have hlen:=h.len
 have run: ∀(n j:Nat) (out:List af),j<ls.length→j<n→out.length+n≤100000→ ∃m,m≤n+1∧aB (dW ⟨rL ls fb,kn⟩) m ((j:Int),out)=some (.brk (out++(qQ fb n (j:Int)).reverse)):=by
  intro n
  induction n with
  |zero=>intro j out _ h1 _;omega
  |succ n ih=>
   intro j out hj h1 ho
   by_cases c:(j:Int)≤0
   ·refine⟨1,by omega, ?_⟩
    rw [aG]
    unfold dW qQ
    have:decide ((0:Int)<(j:Int))=false:=decide_eq_false (by omega)
    simp only [this,cond_false,if_pos c,List.reverse_nil,List.append_nil]
   ·have hf:=h.from_ j (by omega) (by omega)
    have hb:dW ⟨rL ls fb,kn⟩ ((j:Int),out)=some (.next ((at' fb j).1,out++[(at' fb j).2])):=by
     unfold dW
     simp only [Int.toNat_natCast]
     have e1:at' (rL ls fb) j=⟨at' ls j,(at' fb j).1,(at' fb j).2⟩:=by unfold rL;rw [gT hj]
     rw [rJ (by omega),cond_true,av ⟨by rw [om];omega,by simp only [List.length_singleton];omega,by simp only [List.length_singleton];omega⟩,av (by rw [om];omega),e1]
    have e:(at' fb j).1=(((at' fb j).1.toNat:Nat):Int):=by omega
    obtain⟨m,hm1,hm2⟩:=ih (at' fb j).1.toNat (out++[(at' fb j).2]) (by omega) (by omega) (by simp only [List.length_append,List.length_singleton];omega)
    refine⟨m+1,by omega, ?_⟩
    rw [aG,hb]
    simp only
    rw [e,hm2]
    conv=>rhs;rw [qQ]
    rw [if_neg c,Int.toNat_natCast,List.reverse_append,←e]
    simp
 obtain⟨m,hm1,hm2⟩:=run (j+1) j [] hj (by omega) (by simp;omega)
 unfold bX
 rw [dN hm2 (by unfold FUEL;omega)]
 simp only [List.nil_append,Option.bind_some]
 have hpl:=GD fb (j+1) (j:Int)
 rw [Nu _ (by rw [List.length_reverse];omega),Option.bind_some,av (by simp),List.reverse_reverse]
 rfl
def pL (fb:List (Int × af)):List (List af):=tab fb.length (path fb)
theorem Wx {p:aj} {most:Int} {ls:List State} {fb:List (Int × af)} (h:Rc p most ls fb) {i:Nat} (hi:i<fb.length) (x:af):pL fb++[path fb i++[x]]=pL (fb++[((i:Int),x)]):=by
 apply oq (by simp [pL,bn])
 intro j hj
 unfold pL at hj ⊢
 rw [List.length_append,List.length_singleton,bn]at hj
 rw [gT (by rw [List.length_append,List.length_singleton];exact hj)]
 by_cases e:j<fb.length
 ·rw [xJ (by rw [bn];exact e),gT e,Rp h e]
 ·have e2:j=fb.length:=by omega
  have:=Af (tab fb.length (path fb)) (path fb i++[x])
  rw [bn]at this
  rw [e2,this,LP h hi]
abbrev FR:=List af × List State × Int
def WM (o:Option (Ex (List State × List (List af)) (aN (List State × List (List af) × Int) (Ex (List State) FR)))):Out→Prop
 | .go ls fb=>o=some (.brk (ls,pL fb))
 | .large=>o=some (.ret (.done (.ret ([],[],8))))
 | .found ls fb=>o=some (.ret (.done (.ret (path fb (ls.length - 1),[],0))))
def WA (o:Option (Ex (List State) FR)):Out→Prop
 | .go ls fb=>o=some (.brk ls)
 | .large=>o=some (.ret ([],[],8))
 | .found ls fb=>o=some (.ret (path fb (ls.length - 1),[],0))
section
variable {p:aj} (hp:VP p) {t:Task} (ht:mD p t=true) (hst:jC t) {most:Int} (hm:1≤most∧most≤20000)
include hp ht hst hm
theorem Ji (i:Nat): ∀(n k:Nat) (ls:List State) (fb:List (Int × af)),Rc p most ls fb→i<ls.length→k+n=t.allowed.length→
  ∃m,m≤n+1∧WM (aB (gJ p t most (i:Int)) m (ls,pL fb,(k:Int))) (Mv p t most (at' ls i) i n k ls fb)
 |0,k,ls,fb,h,hi,hkn=>by
  refine⟨1,by omega, ?_⟩
  show _=_
  have:decide ((k:Int)<(t.allowed.length:Int))=false:=decide_eq_false (by omega)
  rw [aG]
  unfold gJ
  simp only [this,cond_false]
 |n+1,k,ls,fb,h,hi,hkn=>by
  obtain⟨_,_,⟨al,ax⟩,⟨gl,gx⟩⟩:=dL ht
  have hll:=h.most;have hlen:=h.len
  have hn:VS p (at' ls i):=h.vs _ (at_mem hi)
  have hroom: ∀x∈ls,KZ x:=fun x hx=>VS.room hp (h.vs x hx)
  have hpl:(path fb i).length≤20001:=by have:=GD fb (i+1) (i:Int);unfold path;omega
  have hpi:at' (pL fb) i=path fb i:=by unfold pL;rw [gT (by omega)]
  have hpn:(pL fb).length=fb.length:=bn _ _
  obtain⟨ri,ri1,ri2⟩:=F9 (l:=ls) (by omega) hroom (nextR p (at' ls i) t (at' t.allowed k)).1
  have hb:gJ p t most (i:Int) (ls,pL fb,(k:Int))=
    (if(nextR p (at' ls i) t (at' t.allowed k)).2≠0 then some (.next (ls,pL fb,((k+1:Nat):Int)))else
     if(nextR p (at' ls i) t (at' t.allowed k)).1∈ls then some (.next (ls,pL fb,((k+1:Nat):Int)))else
     if most<((ls++[(nextR p (at' ls i) t (at' t.allowed k)).1]).length:Int)then some (.done (.ret (.done (.ret ([],[],8)))))else
     if Ce (nextR p (at' ls i) t (at' t.allowed k)).1 t.goal=true then some (.done (.ret (.done (.ret (path fb i++[at' t.allowed k],[],0)))))else
     some (.next (ls++[(nextR p (at' ls i) t (at' t.allowed k)).1],pL fb++[path fb i++[at' t.allowed k]],((k+1:Nat):Int)))):=by
   unfold gJ
   simp only [Int.toNat_natCast]
   rw [rJ (by omega),cond_true,Cr hp hn,Option.bind_some,av ⟨by omega,by omega⟩,wr (by omega)]
   by_cases h0:I9 p (at' ls i) (at' t.allowed k)=0
   ·have e:G5 p (at' ls i) (at' t.allowed k)=(gY (at' ls i) (at' t.allowed k),0):=by unfold G5;rw [if_pos h0]
    have en:nextR p (at' ls i) t (at' t.allowed k)=(gY (at' ls i) (at' t.allowed k),wu p (gY (at' ls i) (at' t.allowed k)) t):=by unfold nextR;rw [if_pos h0]
    have ha:=VS.Xp hp hn (wP h0).1
    rw [en]at ri1 ri2
    rw [e,en]
    simp only at ri1 ri2 ⊢
    simp only [decide_true,Bool.not_true,gB,Bool.and_true,show(false==false)=true from rfl,cond_true,cond_false]
    rw [jX (VP.small hp) _ hst,Ci hp ha ht,Option.bind_some]
    by_cases h2:wu p (gY (at' ls i) (at' t.allowed k)) t=0
    ·rw [if_neg (by simp [h2]),h2]
     simp only [decide_true,Bool.not_true,gB,Bool.and_true,show(false==false)=true from rfl,cond_true,cond_false]
     rw [ri1,Option.bind_some]
     by_cases h3:gY (at' ls i) (at' t.allowed k)∈ls
     ·rw [if_pos h3,decide_eq_true (ri2.2 h3),cond_true];rfl
     ·rw [if_neg h3,decide_eq_false (fun q=>h3 (ri2.1 q)),cond_false]
      have hcs:gH (at' (pL fb) i)=some (path fb i):=by
       rw [hpi];unfold gH;rw [av (by omega)]
      rw [av ⟨by simp only [List.length_singleton];omega,by simp only [List.length_singleton];omega⟩,hcs,Option.bind_some]
      rw [av ⟨by rw [hpn];omega,by omega,by simp only [List.length_singleton];omega,by simp only [List.length_singleton];omega⟩]
      rw [av ⟨by simp only [List.length_singleton,hpn];omega,by simp only [List.length_singleton,hpn];omega⟩]
      by_cases h4:most<((ls++[gY (at' ls i) (at' t.allowed k)]).length:Int)
      ·rw [if_pos h4,decide_eq_true h4,cond_true]
      ·rw [if_neg h4,decide_eq_false h4,cond_false,Dr ha (by omega) gx,Option.bind_some]
       cases Ce (gY (at' ls i) (at' t.allowed k)) t.goal with
       |true=>rw [if_pos rfl,cond_true]
       |false=>rw [if_neg (by simp),cond_false];rfl
    ·rw [if_pos (by simpa using h2)]
     simp only [decide_eq_false h2,Bool.not_false,gB,Bool.and_true,show(true==false)=false from rfl,cond_true,cond_false,Option.bind_some]
     rfl
   ·have e:G5 p (at' ls i) (at' t.allowed k)=(fE,I9 p (at' ls i) (at' t.allowed k)):=by unfold G5;rw [if_neg h0]
    have en:nextR p (at' ls i) t (at' t.allowed k)=(fE,I9 p (at' ls i) (at' t.allowed k)):=by unfold nextR;rw [if_neg h0]
    rw [e,en]
    simp only
    rw [if_pos (by simpa using h0)]
    simp only [decide_eq_false h0,Bool.not_false,gB,Bool.and_true,show(true==false)=false from rfl,cond_true,cond_false,Option.bind_some]
    rfl
  unfold Mv
  split
  ·rename_i h1
   rw [if_pos h1]at hb
   obtain⟨m,hm1,hm2⟩:=Ji i n (k+1) ls fb h hi (by omega)
   refine⟨m+1,by omega, ?_⟩
   rw [aG,hb];exact hm2
  ·rename_i h1
   rw [if_neg h1]at hb
   have hv:=qF hp hn (Decidable.not_not.1 h1)
   have hvs:VS p (nextR p (at' ls i) t (at' t.allowed k)).1:=by rw [hv.2.1];exact hv.2.2.1
   split
   ·rename_i h2
    rw [if_pos h2]at hb
    obtain⟨m,hm1,hm2⟩:=Ji i n (k+1) ls fb h hi (by omega)
    refine⟨m+1,by omega, ?_⟩
    rw [aG,hb];exact hm2
   ·rename_i h2
    rw [if_neg h2]at hb
    split
    ·rename_i h3
     rw [if_pos h3]at hb
     exact⟨1,by omega,by show _=_;rw [aG,hb]⟩
    ·rename_i h3
     rw [if_neg h3]at hb
     have hr:=h.add hvs hi (x:=at' t.allowed k) (by omega)
     split
     ·rename_i h4
      rw [if_pos h4]at hb
      refine⟨1,by omega, ?_⟩
      show _=_
      rw [aG,hb]
      have e1:(ls++[(nextR p (at' ls i) t (at' t.allowed k)).1]).length - 1=fb.length:=by rw [List.length_append,List.length_singleton];omega
      rw [e1,LP h (by omega)]
     ·rename_i h4
      rw [if_neg h4]at hb
      have hat:at' (ls++[(nextR p (at' ls i) t (at' t.allowed k)).1]) i=at' ls i:=xJ hi
      obtain⟨m,hm1,hm2⟩:=Ji i n (k+1) _ _ hr (by rw [List.length_append,List.length_singleton];omega) (by omega)
      rw [hat]at hm2
      refine⟨m+1,by omega, ?_⟩
      rw [aG,hb]
      simp only
      rw [Wx h (by omega)]
      exact hm2
theorem QF: ∀(F i:Nat) (ls:List State) (fb:List (Int × af)),Rc p most ls fb→i≤ls.length→most<(i:Int)+(F:Int)→
  ∃m,m≤F+1∧WA (aB (fC p t most) m (ls,pL fb,(i:Int))) (Qf p t most F i ls fb)
 |0,i,ls,fb,h,hi,hF=>by have:=h.most;omega
 |F+1,i,ls,fb,h,hi,hF=>by
  have hll:=h.most
  by_cases hlt:i<ls.length
  ·obtain⟨m0,hm0,hres⟩:=Ji hp ht hst hm i t.allowed.length 0 ls fb h hlt (by omega)
   have hal:=(dL ht).2.2.1.1
   have hok:=DU hp ht hm (h.vs _ (at_mem hlt)) i t.allowed.length 0 ls fb h hlt
   have hE: ∀o,aB (gJ p t most (i:Int)) m0 (ls,pL fb,((0:Nat):Int))=some o→aB (gJ p t most (i:Int)) FUEL (ls,pL fb,0)=some o:=fun o ho=>dN ho (by unfold FUEL;omega)
   unfold Qf
   rw [if_pos hlt]
   revert hres hok
   cases Mv p t most (at' ls i) i t.allowed.length 0 ls fb with
   |go ls' fb'=>
    intro ho hok
    obtain⟨m,hm1,hm2⟩:=QF F (i+1) ls' fb' hok.1 (by have:=hok.2;omega) (by omega)
    refine⟨m+1,by omega, ?_⟩
    rw [aG]
    unfold fC
    simp only
    rw [rJ (by omega),cond_true,hE _ ho,Option.bind_some,wr (by omega)]
    exact hm2
   |large=>
    intro ho _
    refine⟨1,by omega, ?_⟩
    show _=_
    rw [aG]
    unfold fC
    simp only
    rw [rJ (by omega),cond_true,hE _ ho,Option.bind_some]
   |found ls' fb'=>
    intro ho _
    refine⟨1,by omega, ?_⟩
    show _=_
    rw [aG]
    unfold fC
    simp only
    rw [rJ (by omega),cond_true,hE _ ho,Option.bind_some]
  ·refine⟨1,by omega, ?_⟩
   unfold Qf
   rw [if_neg hlt]
   show _=_
   have:decide ((i:Int)<(ls.length:Int))=false:=decide_eq_false (by omega)
   rw [aG]
   unfold fC
   simp only [this,cond_false]
end
noncomputable def Og (p:aj) (s:State) (t:Task) (most:Int):FR:=
 if oI p s t≠0 then([],[],oI p s t)else if most<1∨20000<most then([],[],1)else if Ce s t.goal=true then([],[],0)else
  match Qf p t most 20002 0 [s] [(-1,⟨0,0⟩)]with
  | .go ls _=>([],ls,4)
  | .large=>([],[],8)
  | .found ls fb=>(path fb (ls.length - 1),[],0)
theorem GJ {p:aj} (hp:Small p) (s:State) {t:Task} (hst:jC t) (most:Int):rY p s t most=some (Og p s t most):=by
 unfold rY Og
 rw [jX hp s hst,Option.bind_some]
 by_cases h:oI p s t=0
 ·obtain⟨h1,h2,h3,h4⟩:=jP h
  rw [if_neg (by simp [h]),h]
  simp only [decide_true,Bool.not_true,cond_false]
  by_cases hmm:most<1∨20000<most
  ·rw [if_pos hmm,eO]
   have:(decide (most<1)||decide (20000<most))=true:=by
    rw [Bool.or_eq_true,decide_eq_true_iff,decide_eq_true_iff];exact hmm
   rw [this];rfl
  ·rw [if_neg hmm,eO]
   have:(decide (most<1)||decide (20000<most))=false:=by
    rw [Bool.or_eq_false_iff,decide_eq_false_iff_not,decide_eq_false_iff_not];exact⟨fun q=>hmm (.inl q),fun q=>hmm (.inr q)⟩
   rw [this,cond_false]
   obtain⟨_,_,_,⟨gl,gx⟩⟩:=dL h3
   rw [Dr h2 (by omega) gx,Option.bind_some]
   cases Ce s t.goal with
   |true=>rw [if_pos rfl];rfl
   |false=>
    rw [if_neg (by simp),cond_false]
    have hm:1≤most∧most≤20000:=by omega
    obtain⟨m,hm1,hm2⟩:=QF h1 h3 hst hm 20002 0 [s] [(-1,⟨0,0⟩)] (KS h2 hm _) (by simp) (by omega)
    have e:pL [((-1:Int),(⟨0,0⟩:af))]=[([]:List af)]:=by
     simp [pL,tab,path,qQ]
    rw [e]at hm2
    revert hm2
    cases Qf p t most 20002 0 [s] [(-1,⟨0,0⟩)]with
    |go ls fb=>intro ho;rw [show(0:Int)=((0:Nat):Int)from rfl,dN ho (by unfold FUEL;omega)];rfl
    |large=>intro ho;rw [show aB (fC p t most) FUEL ([s],[[]],0)=_ from dN ho (by unfold FUEL;omega)];rfl
    |found ls fb=>intro ho;rw [show aB (fC p t most) FUEL ([s],[[]],0)=_ from dN ho (by unfold FUEL;omega)];rfl
 ·rw [if_pos h];simp [h]
theorem OL (ls:List State) (fb:List (Int × af)) (kn:List (List Bool × Bool)) (hl:ls.length≤100000):cK [] ⟨rL ls fb,kn⟩=some ls:=by
 have key:aB (cO ⟨rL ls fb,kn⟩) FUEL (ls.take 0,((0:Nat):Int))=some (.brk (ls.take ls.length)):=by
  refine dA (body:=cO ⟨rL ls fb,kn⟩) (fun i=>(ls.take i,(i:Int))) ls.length _ (fuel_lt (by omega)) (fun i hi=> ?_) ?_
  ·have e1:(at' (rL ls fb) i).s_=at' ls i:=by unfold rL;rw [gT hi]
   unfold cO oQ
   simp only [Int.toNat_natCast,e1]
   rw [rJ (by rw [om];omega),cond_true,av ⟨by simp only [List.length_take,List.length_singleton];omega,by simp only [List.length_take,List.length_singleton];omega⟩,Option.bind_some,av (by rw [om];omega),wr (by omega),mU hi]
   rfl
  ·unfold cO
   have:decide ((ls.length:Int)<((rL ls fb).length:Int))=false:=decide_eq_false (by rw [om];omega)
   simp only [this,cond_false]
 rw [List.take_length]at key
 unfold cK
 rw [show aB (cO ⟨rL ls fb,kn⟩) FUEL ([],0)=_ from key];rfl
theorem N7 {p:aj} (hp:Small p) (s:State) {t:Task} (hst:jC t) (most:Int):fQ p s t most=some (Og p s t most):=by
 unfold fQ Og
 rw [qP hp s hst,Option.bind_some]
 by_cases h:oI p s t=0
 ·obtain⟨h1,h2,h3,h4⟩:=jP h
  rw [if_neg (by simp [h]),h]
  simp only [decide_true,Bool.not_true,cond_false]
  by_cases hmm:most<1∨20000<most
  ·rw [if_pos hmm,eO]
   have:(decide (most<1)||decide (20000<most))=true:=by
    rw [Bool.or_eq_true,decide_eq_true_iff,decide_eq_true_iff];exact hmm
   rw [this];rfl
  ·rw [if_neg hmm,eO]
   have:(decide (most<1)||decide (20000<most))=false:=by
    rw [Bool.or_eq_false_iff,decide_eq_false_iff_not,decide_eq_false_iff_not];exact⟨fun q=>hmm (.inl q),fun q=>hmm (.inr q)⟩
   rw [this,cond_false]
   obtain⟨_,_,⟨al,_⟩,⟨gl,gx⟩⟩:=dL h3
   have hm:1≤most∧most≤20000:=by omega
   have hadd:=add_eq (ls:=[]) (x:=⟨[],[]⟩) Kn.nil h2 (-1) ⟨0,0⟩ (by simp)
   rw [Ic s (VS.small h1 h2),Option.bind_some,hadd]
   simp only [List.not_mem_nil,decide_false,cond_false,Option.bind_some]
   rw [JP h2 (by omega) gx,Option.bind_some]
   have e0:([]:List Reached)++[(⟨s, -1,⟨0,0⟩⟩:Reached)]=rL [s] [(-1,⟨0,0⟩)]:=by simp [rL,tab,at']
   have hkn:Kn p [s] (d9 (sK 280) (qo s) true []):=by have:=(Kn.nil (p:=p)).add h1 h2;simpa using this
   rw [e0]
   generalize hk0:d9 (sK 280) (qo s) true ([]:List (List Bool × Bool))=k0 at hkn
   have hrc:=KS h2 hm (⟨0,0⟩:af)
   cases hmet:Ce s t.goal with
   |true=>
    rw [if_pos rfl]
    simp only [cond_true,dh,Option.bind_some]
    have hz:bU p t most [] [] 0 0 ⟨rL [s] [(-1,⟨0,0⟩)],k0⟩=some (if t.allowed=[]then(0,[],[],0,0,⟨rL [s] [(-1,⟨0,0⟩)],k0⟩)else(2,[],[],0,0,⟨rL [s] [(-1,⟨0,0⟩)],k0⟩)):=by
     unfold bU
     obtain⟨k,hk⟩: ∃k,FUEL=k+1+1:=⟨1180591620717411303422,rfl⟩
     rw [hk,aG]
     have hs0:(at' (rL [s] [(-1,⟨0,0⟩)]) 0).s_=s:=rfl
     have b0:bg p t most ([],[],0,rL [s] [(-1,⟨0,0⟩)],k0,0,0)=some (if t.allowed=[]then .next ([],[],0,rL [s] [(-1,⟨0,0⟩)],k0,0,1)else .done (.ret (2,[],[],0,0,⟨rL [s] [(-1,⟨0,0⟩)],k0⟩))):=by
      unfold bg
      simp only
      have hll:((rL [s] [((-1:Int),(⟨0,0⟩:af))]).length:Int)=1:=rfl
      rw [hll,show decide ((0:Int)<1)=true from rfl,cond_true,show((0:Int)).toNat=0 from rfl,hs0,Gd (now:=s) h1 h3 hm 0 (Int.le_refl 0)]
      by_cases ha:t.allowed=[]
      ·rw [if_pos ha,if_pos ha];rfl
      ·rw [if_neg ha,if_neg ha];rfl
     rw [b0]
     by_cases ha:t.allowed=[]
     ·rw [if_pos ha,if_pos ha]
      simp only
      rw [aG]
      rfl
     ·rw [if_neg ha,if_neg ha];rfl
    rw [hz,Option.bind_some]
    have hpr:=Fe hrc hm.2 (j:=0) (by simp) k0
    have hpth:path [((-1:Int),(⟨0,0⟩:af))] 0=[]:=by simp [path,qQ]
    rw [hpth]at hpr
    have hpr':bX 0 ⟨rL [s] [(-1,⟨0,0⟩)],k0⟩=some []:=hpr
    by_cases ha:t.allowed=[]
    ·rw [if_pos ha]
     simp only [show Nat.beq 0 0=true from rfl,cond_true,show decide ((0:Int)≤0)=true from rfl]
     rw [hpr'];rfl
    ·rw [if_neg ha]
     simp only [show Nat.beq 2 0=false from rfl,show Nat.beq 2 2=true from rfl,cond_true,cond_false,show decide ((0:Int)≤0)=true from rfl]
     rw [hpr'];rfl
   |false=>
    rw [if_neg (by simp)]
    simp only [cond_false,dh,Option.bind_some]
    obtain⟨m,hm1,hm2⟩:=Od h1 h3 hm 20002 0 [s] [(-1,⟨0,0⟩)] k0 hrc (by simp) hkn (by omega)
    have hok:=R8 h1 h3 hm 20002 0 [s] [(-1,⟨0,0⟩)] hrc
    have hE: ∀o,aB (bg p t most) m ([],[],0,rL [s] [(-1,⟨0,0⟩)],k0, -1,((0:Nat):Int))=some o→aB (bg p t most) FUEL ([],[],0,rL [s] [(-1,⟨0,0⟩)],k0, -1,0)=some o:=fun o ho=>dN ho (by unfold FUEL;omega)
    revert hm2 hok
    cases Qf p t most 20002 0 [s] [(-1,⟨0,0⟩)]with
    |go ls fb=>
     rintro ⟨kn,ho⟩ hok
     have hll:=hok.1.most
     unfold bU
     rw [hE _ ho]
     simp only [Option.bind_some,show Nat.beq 0 0=true from rfl,cond_true,show decide ((0:Int)≤ -1)=false from rfl,cond_false]
     rw [OL ls fb kn (by omega)];rfl
    |large=>
     rintro ⟨f,x,ho⟩ _
     unfold bU
     rw [hE _ ho]
     simp only [Option.bind_some,show Nat.beq 3 0=false from rfl,show Nat.beq 3 2=false from rfl,cond_false]
     rfl
    |found ls fb=>
     rintro ⟨kn,ho⟩ hok
     have hpos:=hok.1.pos
     unfold bU
     rw [hE _ ho]
     simp only [Option.bind_some,show Nat.beq 2 0=false from rfl,show Nat.beq 2 2=true from rfl,cond_false,cond_true]
     rw [decide_eq_true (show(0:Int)≤(ls.length:Int) - 1 by omega),cond_true]
     have hpr:=Fe hok.1 hm.2 (j:=ls.length - 1) (by omega) kn
     rw [show((ls.length - 1:Nat):Int)=(ls.length:Int) - 1 by omega]at hpr
     rw [hpr];rfl
 ·rw [if_pos h];simp [h]
noncomputable def zD (p:aj) (t:Task) (y:State):Bool:= !decide (oI p y t=0)||Ce y t.goal
noncomputable def xH (p:aj) (t:Task) (l:List State) (y:State) (x:af):Bool:=decide ((nextR p y t x).2=0) && !decide ((nextR p y t x).1∈l)
noncomputable def EH (p:aj) (s:State) (t:Task) (l:List State):Int:=
 if oI p s t≠0 then oI p s t else if 20000<l.length then 2 else bif l.any (zD p t)then 7 else bif !decide (s∈l)then 7 else bif l.any (fun y=>t.allowed.any (xH p t l y))then 7 else 0
theorem ER {p:aj} {t:Task} {y:State} (h:zD p t y=false):oI p y t=0∧Ce y t.goal=false:=by
 unfold zD at h
 rw [Bool.or_eq_false_iff,Bool.not_eq_false',decide_eq_true_iff]at h
 exact h
section
variable {p:aj} (hp:VP p) {t:Task} (ht:mD p t=true) (hst:jC t) {l:List State} (hl:l.length≤20000)
include hp ht hst hl
theorem Vh: ∀(n i:Nat) (x:Search),i+n=l.length→x.l.length≤i→Kn p (l.take i) x.known→
  ∃m,m≤n+1∧(((l.drop i).any (zD p t)=true∧aB (dw p t l) m (x.l,x.known,(i:Int))=some (.ret 7))∨
   ((l.drop i).any (zD p t)=false∧ ∃x':Search,Kn p l x'.known∧aB (dw p t l) m (x.l,x.known,(i:Int))=some (.brk (x'.l,x'.known))))
 |0,i,x,hi,hx,hk=>by
  refine⟨1,by omega, .inr ⟨?_,x, ?_, ?_⟩⟩
  ·rw [List.drop_eq_nil_of_le (by omega)];rfl
  ·rw [List.take_of_length_le (by omega)]at hk;exact hk
  ·have:decide ((i:Int)<(l.length:Int))=false:=decide_eq_false (by omega)
   rw [aG]
   unfold dw
   simp only [this,cond_false]
 |n+1,i,x,hi,hx,hk=>by
  have hlt:i<l.length:=by omega
  obtain⟨_,_,_,⟨gl,gx⟩⟩:=dL ht
  have hdrop:(l.drop i).any (zD p t)=(zD p t (at' l i)||(l.drop (i+1)).any (zD p t)):=by
   rw [List.drop_eq_getElem_cons hlt,List.any_cons,fI hlt]
  have htk:l.take (i+1)=l.take i++[at' l i]:=mU hlt
  by_cases h0:oI p (at' l i) t=0
  ·obtain⟨_,hv,_,_⟩:=jP h0
   cases hm:Ce (at' l i) t.goal with
   |true=>
    refine⟨1,by omega, .inl ⟨?_, ?_⟩⟩
    ·rw [hdrop];unfold zD;rw [hm];simp
    ·rw [aG]
     unfold dw
     simp only [Int.toNat_natCast]
     rw [rJ (by omega),cond_true,av (by omega),qP (VP.small hp) _ hst,h0,Option.bind_some]
     simp only [decide_true,Bool.not_true,gB,Bool.and_true,show(false==false)=true from rfl,cond_true,cond_false]
     rw [JP hv (by omega) gx,hm]
     rfl
   |false=>
    have hb:zD p t (at' l i)=false:=by unfold zD;rw [hm,h0];simp
    have hadd:=add_eq (x:=x) hk hv (-1) ⟨0,0⟩ (by omega)
    obtain⟨x2,hx2,hx2l,hk2⟩: ∃x2:Search,dO (at' l i) (-1) ⟨0,0⟩ x=some (!decide (at' l i∈l.take i),x2)∧x2.l.length≤i+1∧Kn p (l.take (i+1)) x2.known:=by
     by_cases hin:at' l i∈l.take i
     ·refine⟨x, ?_,by omega, ?_⟩
      ·rw [hadd,decide_eq_true hin];rfl
      ·intro u hu
       rw [hk u hu,htk,List.mem_append,List.mem_singleton]
       exact⟨fun q=> .inl q,fun q=>q.elim id fun e=>e ▸ hin⟩
     ·refine⟨⟨x.l++[⟨at' l i, -1,⟨0,0⟩⟩],d9 (sK 280) (qo (at' l i)) true x.known⟩, ?_, ?_, ?_⟩
      ·rw [hadd,decide_eq_false hin];rfl
      ·simp;omega
      ·rw [htk];exact hk.add hp hv
    obtain⟨m,hm1,hm2⟩:=Vh n (i+1) x2 (by omega) hx2l hk2
    have hstep:dw p t l (x.l,x.known,(i:Int))=some (.next (x2.l,x2.known,((i+1:Nat):Int))):=by
     unfold dw
     simp only [Int.toNat_natCast]
     rw [rJ (by omega),cond_true,av (by omega),qP (VP.small hp) _ hst,h0,Option.bind_some]
     simp only [decide_true,Bool.not_true,gB,Bool.and_true,show(false==false)=true from rfl,cond_true,cond_false]
     rw [JP hv (by omega) gx,hm,Option.bind_some,cond_false,show(⟨x.l,x.known⟩:Search)=x from rfl,hx2,Option.bind_some,wr (by omega)]
     rfl
    refine⟨m+1,by omega, ?_⟩
    rw [aG,hstep,hdrop,hb,Bool.false_or]
    exact hm2
  ·refine⟨1,by omega, .inl ⟨?_, ?_⟩⟩
   ·rw [hdrop];unfold zD;rw [decide_eq_false h0];simp
   ·rw [aG]
    unfold dw
    simp only [Int.toNat_natCast]
    rw [rJ (by omega),cond_true,av (by omega),qP (VP.small hp) _ hst,Option.bind_some]
    simp only [decide_eq_false h0,Bool.not_false,gB,Bool.and_true,show(true==false)=false from rfl,cond_true,cond_false,Option.bind_some]
theorem YW {kn:List (List Bool × Bool)} (hk:Kn p l kn) (hv: ∀y∈l,VS p y):aB (lu p t l kn) FUEL 0=some (bif l.any (fun y=>t.allowed.any (xH p t l y))then .ret 7 else .brk ()):=by
 obtain⟨_,_,⟨al,ax⟩,_⟩:=dL ht
 rw [←jM l fun y=>t.allowed.any (xH p t l y)]
 refine bY l.length (fun i=>t.allowed.any (xH p t l (at' l i))) 7 (by omega) (fun i hi=> ?_) (by unfold lu;simp)
 have hvi:=hv _ (at_mem hi)
 have e2:aB (lF p t l kn (i:Int)) FUEL 0=some (bif t.allowed.any (xH p t l (at' l i))then .ret (.done (.ret 7))else .brk ()):=by
  rw [←jM t.allowed (xH p t l (at' l i))]
  refine bY t.allowed.length (fun k=>xH p t l (at' l i) (at' t.allowed k)) (aN.done (Ex.ret (7:Int)):aN Int (Ex Unit Int)) (by omega) (fun k hk'=> ?_) (by unfold lF;simp)
  unfold lF xH
  simp only [Int.toNat_natCast]
  rw [rJ (by omega),cond_true,av (by omega),Jy hp hvi ht,Option.bind_some,wr (by omega)]
  by_cases h0:(nextR p (at' l i) t (at' t.allowed k)).2=0
  ·have hn:=qF hp hvi h0
   have hvn:VS p (nextR p (at' l i) t (at' t.allowed k)).1:=by rw [hn.2.1];exact hn.2.2.1
   rw [h0]
   simp only [decide_true,gB,Bool.and_true,beq_self_eq_true,cond_true,Bool.true_and]
   rw [Gt,Option.bind_some,hk.has hvn]
   exact eF _ _ _
  ·simp only [decide_eq_false h0,gB,Bool.and_true,show(false==true)=false from rfl,cond_false,Option.bind_some,Bool.false_and]
 unfold lu
 rw [rJ (by omega),cond_true,av (by omega),e2,wr (by omega)]
 cases t.allowed.any (xH p t l (at' l i))<;>rfl
theorem Wm (hv: ∀y∈l,VS p y):aB (lG p t l) FUEL 0=some (bif l.any (fun y=>t.allowed.any (xH p t l y))then .ret 7 else .brk ()):=by
 obtain⟨_,_,⟨al,ax⟩,_⟩:=dL ht
 have hroom: ∀x∈l,KZ x:=fun x hx=>VS.room hp (hv x hx)
 rw [←jM l fun y=>t.allowed.any (xH p t l y)]
 refine bY l.length (fun i=>t.allowed.any (xH p t l (at' l i))) 7 (by omega) (fun i hi=> ?_) (by unfold lG;simp)
 have hvi:=hv _ (at_mem hi)
 have e2:aB (lI p t l (i:Int)) FUEL 0=some (bif t.allowed.any (xH p t l (at' l i))then .ret (.done (.ret 7))else .brk ()):=by
  rw [←jM t.allowed (xH p t l (at' l i))]
  refine bY t.allowed.length (fun k=>xH p t l (at' l i) (at' t.allowed k)) (aN.done (Ex.ret (7:Int)):aN Int (Ex Unit Int)) (by omega) (fun k hk'=> ?_) (by unfold lI;simp)
  unfold lI xH
  simp only [Int.toNat_natCast]
  rw [rJ (by omega),cond_true,Cr hp hvi,Option.bind_some,av ⟨by omega,by omega⟩,wr (by omega)]
  by_cases h0:I9 p (at' l i) (at' t.allowed k)=0
  ·have e:G5 p (at' l i) (at' t.allowed k)=(gY (at' l i) (at' t.allowed k),0):=by unfold G5;rw [if_pos h0]
   have en:nextR p (at' l i) t (at' t.allowed k)=(gY (at' l i) (at' t.allowed k),wu p (gY (at' l i) (at' t.allowed k)) t):=by unfold nextR;rw [if_pos h0]
   have ha:=VS.Xp hp hvi (wP h0).1
   rw [e,en]
   simp only [decide_true,gB,Bool.and_true,beq_self_eq_true,cond_true]
   rw [jX (VP.small hp) _ hst,Ci hp ha ht,Option.bind_some]
   obtain⟨ri,ri1,ri2⟩:=F9 (l:=l) (by omega) hroom (gY (at' l i) (at' t.allowed k))
   by_cases h2:wu p (gY (at' l i) (at' t.allowed k)) t=0
   ·simp only [h2,decide_true,cond_true,beq_self_eq_true,Bool.true_and]
    rw [ri1,Option.bind_some]
    have:decide (ri<0)= !decide (gY (at' l i) (at' t.allowed k)∈l):=by
     rw [Bool.eq_iff_iff,decide_eq_true_iff,Bool.not_eq_true',decide_eq_false_iff_not,←ri2];omega
    rw [this]
    exact eF _ _ _
   ·simp only [decide_eq_false h2,cond_false,show(false==true)=false from rfl,Option.bind_some,Bool.false_and]
  ·have e:G5 p (at' l i) (at' t.allowed k)=(fE,I9 p (at' l i) (at' t.allowed k)):=by unfold G5;rw [if_neg h0]
   have en:nextR p (at' l i) t (at' t.allowed k)=(fE,I9 p (at' l i) (at' t.allowed k)):=by unfold nextR;rw [if_neg h0]
   rw [e,en]
   simp only [decide_eq_false h0,gB,Bool.and_true,show(false==true)=false from rfl,cond_false,Option.bind_some,Bool.false_and]
 unfold lG
 rw [rJ (by omega),cond_true,e2,wr (by omega)]
 cases t.allowed.any (xH p t l (at' l i))<;>rfl
theorem V5:aB (lW p t l) FUEL 0=some (bif l.any (zD p t)then .ret 7 else .brk ()):=by
 obtain⟨_,_,_,⟨gl,gx⟩⟩:=dL ht
 rw [←jM l (zD p t)]
 refine bY l.length (fun i=>zD p t (at' l i)) 7 (by omega) (fun i hi=> ?_) (by unfold lW;simp)
 unfold lW
 simp only [Int.toNat_natCast]
 rw [rJ (by omega),cond_true,jX (VP.small hp) _ hst,Option.bind_some,wr (by omega)]
 unfold zD
 by_cases h0:oI p (at' l i) t=0
 ·obtain⟨_,hv,_,_⟩:=jP h0
  simp only [h0,decide_true,Bool.not_true,gB,Bool.and_true,show(false==false)=true from rfl,cond_true,cond_false,Bool.false_or]
  rw [Dr hv (by omega) gx,Option.bind_some,av ⟨by omega,fun _=>by omega⟩]
  exact eF _ _ _
 ·simp only [decide_eq_false h0,Bool.not_false,gB,Bool.and_true,show(true==false)=false from rfl,cond_false,cond_true,Option.bind_some,Bool.true_or]
  rw [av ⟨by omega,fun _=>by omega⟩]
end
theorem O3 {p:aj} (hp:Small p) (s:State) {t:Task} (hst:jC t) (l:List State):jS p s t l=some (EH p s t l):=by
 unfold jS EH
 rw [qP hp s hst,Option.bind_some]
 by_cases h:oI p s t=0
 ·obtain⟨h1,h2,h3,h4⟩:=jP h
  rw [if_neg (by simp [h]),h]
  simp only [decide_true,Bool.not_true,cond_false]
  by_cases hl:20000<l.length
  ·rw [if_pos hl,decide_eq_true (show(20000:Int)<(l.length:Int) by omega),cond_true]
  ·rw [if_neg hl,decide_eq_false (show ¬ (20000:Int)<(l.length:Int) by omega),cond_false]
   obtain⟨m,hm1,hm2⟩:=Vh h1 h3 hst (l:=l) (by omega) l.length 0 ⟨[],[]⟩ (by omega) (by simp) (by rw [List.take_zero];exact Kn.nil)
   rw [List.drop_zero]at hm2
   rcases hm2 with⟨ha,hr⟩|⟨ha,x',hk,hr⟩
   ·rw [ha,show aB (dw p t l) FUEL ([],[],0)=_ from dN hr (by unfold FUEL;omega)];rfl
   ·rw [ha,show aB (dw p t l) FUEL ([],[],0)=_ from dN hr (by unfold FUEL;omega)]
    simp only [Option.bind_some,cond_false]
    rw [List.any_eq_false]at ha
    have hv: ∀y∈l,VS p y:=fun y hy=>(jP (ER (by simpa using ha y hy)).1).2.1
    rw [Gt,Option.bind_some,hk.has h2]
    cases decide (s∈l)with
    |false=>rfl
    |true=>
     simp only [Bool.not_true,cond_false]
     rw [YW h1 h3 hst (by omega) hk hv]
     cases l.any (fun y=>t.allowed.any (xH p t l y))<;>rfl
 ·rw [if_pos h];simp [h]
theorem Jr {p:aj} (hp:Small p) (s:State) {t:Task} (hst:jC t) (l:List State):uT p s t l=some (EH p s t l):=by
 unfold uT EH
 rw [jX hp s hst,Option.bind_some]
 by_cases h:oI p s t=0
 ·obtain⟨h1,h2,h3,h4⟩:=jP h
  rw [if_neg (by simp [h]),h]
  simp only [decide_true,Bool.not_true,cond_false]
  by_cases hl:20000<l.length
  ·rw [if_pos hl,decide_eq_true (show(20000:Int)<(l.length:Int) by omega),cond_true]
  ·rw [if_neg hl,decide_eq_false (show ¬ (20000:Int)<(l.length:Int) by omega),cond_false,V5 h1 h3 hst (by omega)]
   cases ha:l.any (zD p t)with
   |true=>rfl
   |false=>
    simp only [Option.bind_some,cond_false]
    rw [List.any_eq_false]at ha
    have hv: ∀y∈l,VS p y:=fun y hy=>(jP (ER (by simpa using ha y hy)).1).2.1
    obtain⟨ri,ri1,ri2⟩:=F9 (l:=l) (by omega) (fun x hx=>VS.room h1 (hv x hx)) s
    rw [ri1,Option.bind_some]
    have:decide (ri<0)= !decide (s∈l):=by
     rw [Bool.eq_iff_iff,decide_eq_true_iff,Bool.not_eq_true',decide_eq_false_iff_not,←ri2];omega
    rw [this]
    cases decide (s∈l)with
    |false=>rfl
    |true=>
     simp only [Bool.not_true,cond_false]
     rw [Wm h1 h3 hst (by omega) hv]
     cases l.any (fun y=>t.allowed.any (xH p t l y))<;>rfl
 ·rw [if_pos h];simp [h]
def Ey:aj:=⟨3,[⟨0,1,500,0,20⟩],[⟨0,1,3,400,10,[]⟩,⟨1,2,2,400,10,[]⟩],[⟨⟨2, -1⟩,100,1⟩]⟩
def BI:State:=⟨[true,true],List.replicate 2 false,List.replicate 2 false,[true],List.replicate 1 false,List.replicate 3 false,List.replicate 3 false⟩
def exT:Task:=⟨[],[],[⟨1,0⟩,⟨2,0⟩,⟨1,1⟩,⟨2,1⟩],[⟨1,1⟩]⟩
def exU:Task:=⟨[0],[],[⟨1,0⟩,⟨2,0⟩,⟨1,1⟩,⟨2,1⟩],[⟨1,1⟩]⟩
theorem fB:Small Ey:=⟨by decide,by decide,by decide,fun x hx=>by
 simp only [Ey,List.mem_cons,List.not_mem_nil,or_false]at hx
 rcases hx with rfl|rfl<;>decide⟩
theorem Ig:jC exT:=⟨by decide,by decide,by decide,by decide⟩
theorem Ad:jC exU:=⟨by decide,by decide,by decide,by decide⟩
theorem YH:q8=some (Ey,BI):=by kernel_rfl
theorem ex1:rY Ey BI exT 100=some ([⟨1,0⟩,⟨1,1⟩],[],0):=by kernel_rfl
theorem ex2:rY Ey BI exU 100=some ([],[BI],4):=by kernel_rfl
theorem ex3:uT Ey BI exU [BI]=some 0:=by kernel_rfl
theorem abd:fQ Ey BI exT 100=some ([⟨1,0⟩,⟨1,1⟩],[],0):=(N7 fB BI Ig 100).trans ((GJ fB BI Ig 100).symm.trans ex1)
theorem aa4:fQ Ey BI exU 100=some ([],[BI],4):=(N7 fB BI Ad 100).trans ((GJ fB BI Ad 100).symm.trans ex2)
theorem aaU:jS Ey BI exU [BI]=some 0:=(O3 fB BI Ad [BI]).trans ((Jr fB BI Ad [BI]).symm.trans ex3)
theorem ex4:kH Ey BI ⟨1,1⟩=some (fE,44):=by kernel_rfl
def exR:State:=⟨[false,false],List.replicate 2 false,List.replicate 2 false,[true],List.replicate 1 false,List.replicate 3 false,List.replicate 3 false⟩
def MV:State:=⟨[false,false],[false,true],List.replicate 2 false,[true],List.replicate 1 false,[false,false,true],List.replicate 3 false⟩
theorem ex5:pG Ey BI ⟨[],[],[],[]⟩ [⟨1,0⟩,⟨1,1⟩]=some (2,exR,0):=by kernel_rfl
theorem ex6:kH Ey MV ⟨2,1⟩=some (fE,43):=by kernel_rfl
theorem ex7:pG Ey MV ⟨[],[2],[],[]⟩ [⟨6,1⟩]=some (0,fE,45):=by kernel_rfl
theorem ex8:dB Ey MV ⟨[],[2],[],[]⟩=some 0:=by kernel_rfl
theorem ex9:rz [⟨1,0⟩,⟨1,1⟩] [⟨1,0⟩,⟨1,1⟩]=some true:=by kernel_rfl
theorem aaF:bW exR.closed [false,false]=some true:=by kernel_rfl
theorem jy {α:Type} {c:Bool} {a b:α} (h:c=false):(bif c then a else b)=b:=by rw [h];rfl
theorem uX {α:Type} {c:Bool} {a b:α} (h:c=true):(bif c then a else b)=a:=by rw [h];rfl
theorem LV:jC ⟨[],[],[],[]⟩:=⟨by decide,by decide,by decide,by decide⟩
theorem Cf:jC ⟨[],[2],[],[]⟩:=⟨by decide,by decide,by decide,by decide⟩
theorem aaX:kg Ey BI ⟨1,1⟩=some (fE,44):=(U5 fB BI _).trans ((L9 fB BI _).symm.trans ex4)
theorem abv:dP Ey BI ⟨[],[],[],[]⟩ [⟨1,0⟩,⟨1,1⟩]=some (2,exR,0):=(zV fB BI LV _).trans ((Dg fB BI LV _).symm.trans ex5)
theorem aa3:kg Ey MV ⟨2,1⟩=some (fE,43):=(U5 fB MV _).trans ((L9 fB MV _).symm.trans ex6)
theorem abb:dP Ey MV ⟨[],[2],[],[]⟩ [⟨6,1⟩]=some (0,fE,45):=(zV fB MV Cf _).trans ((Dg fB MV Cf _).symm.trans ex7)
theorem abo:eH Ey MV ⟨[],[2],[],[]⟩=some 0:=(qP fB MV Cf).trans ((jX fB MV Cf).symm.trans ex8)
theorem sU:nJ=some true:=by
 unfold nJ
 rw [YH,Option.bind_some]
 dsimp only
 rw [show fQ Ey BI (⟨([]:List Int),([]:List Int),[(⟨1,0⟩:af),(⟨2,0⟩:af),(⟨1,1⟩:af),(⟨2,1⟩:af)],[(⟨1,1⟩:af)]⟩:Task) 100=_ from abd,Option.bind_some,aaX,Option.bind_some,jy (by rfl),ex9,Option.bind_some,jy (by rfl),abv,Option.bind_some,jy (by rfl),aaF,Option.bind_some,jy (by rfl),
  show fQ Ey BI (⟨[0],([]:List Int),[(⟨1,0⟩:af),(⟨2,0⟩:af),(⟨1,1⟩:af),(⟨2,1⟩:af)],[(⟨1,1⟩:af)]⟩:Task) 100=_ from aa4,Option.bind_some,jy (by rfl),
  show jS Ey BI (⟨[0],([]:List Int),[(⟨1,0⟩:af),(⟨2,0⟩:af),(⟨1,1⟩:af),(⟨2,1⟩:af)],[(⟨1,1⟩:af)]⟩:Task) [BI]=_ from aaU,Option.bind_some,jy (by rfl),av (by decide)]
 change Option.bind (kg Ey MV ⟨2,1⟩) _=_
 rw [aa3,Option.bind_some]
 change Option.bind (dP Ey MV ⟨[],[2],[],[]⟩ [⟨6,1⟩]) _=_
 rw [abb,Option.bind_some,uX (by rfl)]
 change Option.bind (eH Ey MV ⟨[],[2],[],[]⟩) _=_
 rw [abo,Option.bind_some]
 rfl
def SN (p:aj) (t:Task):Bool:=(bif (bif (bif (bif (bif (bif (decide (60<(p.sources.length:Int)))then true else(decide (60<(p.links.length:Int))))then true else(decide (60<(p.racks.length:Int))))then true else(decide (60<(t.fed.length:Int))))then true else(decide (60<(t.crew.length:Int))))then true else(decide (60<(t.allowed.length:Int))))then true else(decide (60<(t.goal.length:Int))))
theorem Wi (p:aj) (t:Task):zx p t=some (SN p t):=rfl
structure JI (t:Task):Prop where
 f:t.fed.length≤60
 c:t.crew.length≤60
 a:t.allowed.length≤60
 g:t.goal.length≤60
structure WY (p:aj):Prop where
 s:p.sources.length≤60
 l:p.links.length≤60
 r:p.racks.length≤60
theorem MI {p:aj} {t:Task} (h:SN p t=false):WY p∧JI t:=by
 unfold SN at h
 simp only [eO,Bool.or_eq_false_iff,decide_eq_false_iff_not]at h
 obtain⟨⟨⟨⟨⟨⟨h1,h2⟩,h3⟩,h4⟩,h5⟩,h6⟩,h7⟩:=h
 exact⟨⟨by omega,by omega,by omega⟩,⟨by omega,by omega,by omega,by omega⟩⟩
theorem JI.small {t:Task} (h:JI t):jC t:=by
 obtain⟨h1,h2,h3,h4⟩:=h
 exact⟨by omega,by omega,by omega,by omega⟩
end Sg

namespace Sg
open Go Go.ChangeShapes Go.WideShapes Go.RowKit Go.Deep
end Sg

namespace Sg
open Go Go.ChangeShapes Go.WideShapes Go.RowKit Go.Deep
structure Rz (P:Program) (t:TypeId) (n:Nat) {α:Type} (c:α→Nat→DV) (S:α→Prop):Prop where
 size:P.cellsOf t=n
 rd: ∀{H:Type} {enc:TypeId × Value→H} {w:World} {fuel:Nat} {cs:List Value} {x:DataW H × List MemPlace},DataW.trod enc P w 0 (fun _=>true) true fuel t cs=some x→(∀q∈x.1.weights P t,q≤reachBytes)→
  ∃a:α,S a∧cs.length=n∧ ∀j,j<n→ ∃u,cs[j]? =some u∧cZ (Ag w) w (c a j) u
section
variable {P:Program} {t e:TypeId}
theorem Rd.z {n:Nat} {α:Type} {c:α→Nat→DV} {S:α→Prop} (h:Rd P t n c S):Rz P t n c S:=⟨h.size,fun h1 _=>h.rd h1⟩
theorem oU {H:Type}: ∀{l:List (DataW H)} {d:DataW H} {q:Nat},d∈l→q∈d.weights P e→q∈DataW.weightsAll P e l
 |[],_,_,h,_=>by cases h
 |d::r,d',q,h,hq=>by
  unfold DataW.weightsAll
  rw [List.mem_append]
  rcases List.mem_cons.1 h with rfl|h
  ·exact .inl hq
  ·exact .inr (oU h hq)
open Classical in
theorem Rz.slice {n b:Nat} {α:Type} [Inhabited α] {c:α→Nat→DV} {S:α→Prop} (ht:P.underlying t=some (.slice e)) (hs:P.cellsOf t=1) (hn:0<n) (hb:P.bytesOf e=b) (he:Rz P e n c S):Rz P t 1 (TN n c) (fun l=>l.length≤9223372036854775807∧(∀x∈l,S x)∧l.length*b≤140737488351232):=by
 refine⟨hs,fun{H enc w fuel cs x} h hz=> ?_⟩
 rcases open_slice ht h with⟨rfl,_⟩|⟨a,len,cap,m,fu,D,Pl,rfl,hbl,hl,hm,hmm,hxx,hx⟩
 ·refine⟨[],⟨by simp,by simp,by simp⟩,rfl,fun j hj=> ?_⟩
  have:j=0:=by omega
  subst this
  exact⟨_,rfl,none,0,rfl,by simp,by simp,by simp,Nat.le_refl _,by simp⟩
 ·simp only [if_true]at hmm
  subst hmm
  have hwt:x.1.weights P t=(((List.range len).map D).length+((List.range (m - len)).map fun j=>D (len+j)).length)*P.bytesOf e::(DataW.weightsAll P e ((List.range len).map D)++DataW.weightsAll P e ((List.range (m - len)).map fun j=>D (len+j))):=by
   rw [hxx];simp only [DataW.weights,ht]
  rw [hwt]at hz
  have hzi: ∀i,i<m→ ∀q∈(D i).weights P e,q≤reachBytes:=fun i hi q hq=>by
   refine hz q (List.mem_cons_of_mem _ (List.mem_append.2 ?_))
   by_cases h1:i<len
   ·exact .inl (oU (List.mem_map.2 ⟨i,List.mem_range.2 h1,rfl⟩) hq)
   ·exact .inr (oU (List.mem_map.2 ⟨i - len,List.mem_range.2 (by omega),by rw [show len+(i - len)=i by omega]⟩) hq)
  have hz0:len*b≤140737488351232:=by
   have:=hz _ List.mem_cons_self
   rw [List.length_map,List.length_map,List.length_range,List.length_range,hb,show len+(m - len)=m by omega]at this
   have h2:len*b≤m*b:=Nat.mul_le_mul_right _ hl
   have h3:reachBytes=140737488351232:=by decide
   omega
  have hel: ∀i,i<m→ ∃y:α,S y∧ ∀j,j<n→a.spot=none∧ ∃u,w.cell? ⟨a.block,a.off+(i*n+j),none⟩=some u∧cZ (Ag w) w (c y j) u:=by
   intro i hi
   obtain⟨cs',h1,h2⟩:=hx i hi
   rw [he.size]at h1
   obtain⟨y,hy,hlen,hc⟩:=he.rd h2 (hzi i hi)
   obtain⟨_,hcl,hat⟩:=World.cells?_some h1
   obtain⟨cs0,h10,h20⟩:=hx 0 (by omega)
   rw [he.size]at h10
   obtain⟨y0,_,hlen0,hc0⟩:=he.rd h20 (hzi 0 (by omega))
   obtain⟨_,_,hat0⟩:=World.cells?_some h10
   obtain⟨u0,hu0,_⟩:=hc0 0 hn
   have hsp:a.spot=none:=by
    have:=(hat0 0 hn).trans hu0
    simp only [Nat.zero_mul]at this
    have h3:=cell_spot this
    simpa [Addr.add]using h3
   refine⟨y,hy,fun j hj=> ⟨hsp, ?_⟩⟩
   obtain⟨u,hu,hr⟩:=hc j hj
   refine⟨u, ?_,hr⟩
   have:=(hat j hj).trans hu
   rw [qa hsp,qa rfl]at this
   rw [←this];simp only [Nat.add_assoc]
  let pick:Nat→α:=fun i=>if h:i<m then Classical.choose (hel i h)else default
  have hpick: ∀i,i<m→S (pick i)∧ ∀j,j<n→a.spot=none∧ ∃u,w.cell? ⟨a.block,a.off+(i*n+j),none⟩=some u∧cZ (Ag w) w (c (pick i) j) u:=by
   intro i hi
   show S (dite _ _ _)∧_
   simp only [pick,dif_pos hi]
   exact Classical.choose_spec (hel i hi)
  let l:List α:=(List.range len).map pick
  have hll:l.length=len:=by simp [l]
  have hat: ∀i,i<len→at' l i=pick i:=fun i hi=>by simp [at',l,hi]
  refine⟨l,⟨by rw [hll];exact Nat.le_trans (Nat.le_trans hl hm) (by decide),fun x hx=> ?_,by rw [hll];exact hz0⟩,rfl,fun j hj=> ?_⟩
  ·obtain⟨i,hi,rfl⟩:=List.mem_map.mp hx
   exact(hpick i (Nat.lt_of_lt_of_le (List.mem_range.mp hi) hl)).1
  ·have:j=0:=by omega
   subst this
   refine⟨_,rfl,some a,m, ?_,by simp,by simp,by simp,by rw [hll];exact hl,fun ad ha=> ?_⟩
   ·simp [hll]
   ·cases ha
    refine⟨fun h0=> ?_,fun i hi j hj=> ?_⟩
    ·exact((hpick 0 (by omega)).2 0 hn).1
    ·rw [hll]at hi
     obtain⟨_,u,hu,hr⟩:=(hpick i (by omega)).2 j hj
     exact⟨Oq hu,u,hu,by show cZ _ _ (c (at' l i) j) u;rw [hat i hi];exact hr⟩
theorem Rz.fields {fs:Array Field} {n:Nat} (ht:P.underlying t=some (.struct fs)) (hs:P.cellsOf t=n) {H:Type} {enc:TypeId × Value→H} {w:World} {fuel:Nat} {cs:List Value} {x:DataW H × List MemPlace}
  (h:DataW.trod enc P w 0 (fun _=>true) true fuel t cs=some x) (hz: ∀q∈x.1.weights P t,q≤reachBytes):cs.length=n∧ ∀(i:Nat) (f:Field),fs[i]? =some f→ ∃y,DataW.trod enc P w 0 (fun _=>true) true (fuel - 1) f.type ((cs.drop f.offset).take (P.cellsOf f.type))=some y∧ ∀q∈y.1.weights P f.type,q≤reachBytes:=by
 obtain⟨xs,m,rfl,hx,hl,hxl,hf⟩:=DataW.trod_struct ht h
 have hd:x.1= .agg (xs.map (·.1)):=congrArg Prod.fst hx
 refine⟨by rw [hl,hs],fun i f hi=> ?_⟩
 have hlt:=(Array.getElem?_eq_some_iff.mp hi).1
 have h1:=hf i f hi
 rw [List.getElem?_eq_getElem (by omega)]at h1
 refine⟨_,h1,fun q hq=>hz q ?_⟩
 rw [hd]
 simp only [DataW.weights,ht]
 refine DataW.weights_mem_each (j:=i) (t:=f.type) (d:=(xs[i]'(by omega)).1) ?_ ?_ _ hq
 ·rw [List.getElem?_map];simp [hi]
 ·rw [List.getElem?_map,List.getElem?_eq_getElem (by omega)];rfl
theorem Rz.field {n off:Nat} {α:Type} {c:α→Nat→DV} {S:α→Prop} (he:Rz P e n c S) {H:Type} {enc:TypeId × Value→H} {w:World} {fuel:Nat} {cs:List Value}
  (h: ∃y,DataW.trod enc P w 0 (fun _=>true) true fuel e ((cs.drop off).take (P.cellsOf e))=some y∧ ∀q∈y.1.weights P e,q≤reachBytes): ∃a:α,S a∧ ∀j,j<n→ ∃u,cs[off+j]? =some u∧cZ (Ag w) w (c a j) u:=by
 obtain⟨y,hy,hz⟩:=h
 rw [he.size]at hy
 obtain⟨a,ha,hl,hc⟩:=he.rd hy hz
 exact⟨a,ha,Eh hc⟩
theorem Rz.elems {m n:Nat} (ht:P.underlying t=some (.array m e)) (hs:P.cellsOf t=n) {H:Type} {enc:TypeId × Value→H} {w:World} {fuel:Nat} {cs:List Value} {x:DataW H × List MemPlace}
  (h:DataW.trod enc P w 0 (fun _=>true) true fuel t cs=some x) (hz: ∀q∈x.1.weights P t,q≤reachBytes):cs.length=n∧ ∀(i:Nat),i<m→ ∃y,DataW.trod enc P w 0 (fun _=>true) true (fuel - 1) e ((cs.drop (i*P.cellsOf e)).take (P.cellsOf e))=some y∧ ∀q∈y.1.weights P e,q≤reachBytes:=by
 obtain⟨xs,q,rfl,hx,hl,hxl,hf⟩:=DataW.trod_array ht h
 have hd:x.1= .agg (xs.map (·.1)):=congrArg Prod.fst hx
 refine⟨by rw [hl,hs],fun i hi=> ?_⟩
 have h1:=hf i hi
 rw [List.getElem?_eq_getElem (by omega)]at h1
 refine⟨_,h1,fun q hq=>hz q ?_⟩
 rw [hd]
 simp only [DataW.weights,ht]
 exact oU (List.mem_map.2 ⟨_,List.getElem_mem _,rfl⟩) hq
theorem Rz.agg {n:Nat} {α:Type} {c:α→Nat→DV} {S:α→Prop} (hr:Rz P t n c S) {fs:Array Field} (ht:P.underlying t=some (.struct fs)) {W:World} {b0:Nat} {v:Value} (hv:Value.okWide P W .any b0 t v)
  {H:Type} {enc:TypeId × Value→H} {d:DataW H} {ps:List MemPlace} (h:DataW.Trod enc P W 0 (fun _=>true) true t v d ps) (hz: ∀q∈d.weights P t,q≤reachBytes):
  ∃a:α,S a∧gI (fun _=>none) (Ag W) W (.agg ((List.range n).map fun j=> .d (c a j))) v:=by
 obtain⟨cs,rfl,hsz⟩:=okWide_struct ht hv
 obtain⟨fuel,hf⟩:=h
 obtain⟨a,ha,hl,hc⟩:=hr.rd hf hz
 refine⟨a,ha,cs.toList,by simp,bV.pV (by rw [List.length_map,List.length_range];exact hl) fun j x hx=> ?_⟩
 have hj:j<n:=by
  have:=(List.getElem?_eq_some_iff.mp hx).1
  simpa using this
 obtain⟨u,hu,hru⟩:=hc j hj
 refine⟨u,hu, ?_⟩
 simp [hj]at hx
 subst hx
 exact hru
theorem Rz.one {α:Type} {c:α→Nat→DV} {S:α→Prop} (hr:Rz P t 1 c S) {W:World} {v:Value} (hv:v.cells.toList=[v])
  {H:Type} {enc:TypeId × Value→H} {d:DataW H} {ps:List MemPlace} (h:DataW.Trod enc P W 0 (fun _=>true) true t v d ps) (hz: ∀q∈d.weights P t,q≤reachBytes): ∃a:α,S a∧gI (fun _=>none) (Ag W) W (.one (.d (c a 0))) v:=by
 obtain⟨fuel,hf⟩:=h
 rw [hv]at hf
 obtain⟨a,ha,hl,hc⟩:=hr.rd hf hz
 obtain⟨u,hu,hru⟩:=hc 0 (by omega)
 simp at hu;subst hu
 exact⟨a,ha,hru⟩
end
section
variable {p:aj} {s:State} (hs:VS p s) {x:af} (hx:iA p x=true) (hh:holdB s x=false)
include hs hx hh
end
theorem LG {p:aj} {s:State} {t:Task} {x:af} (h:oI p s t=0):PY p s t [x]=if(nextR p s t x).2=0 then(1,(nextR p s t x).1,0)else(0,fE,(nextR p s t x).2):=by
 unfold PY
 rw [if_neg (by simp [h]),if_neg (by simp)]
 rfl
theorem Ou {α:Type} [Inhabited α] (l:List α) (i:Nat):Fq l i 1=[at' l i]:=by
 unfold Fq
 simp
structure U8 (t:Task):Prop where
 f:t.fed.length≤17592186043904
 c:t.crew.length≤17592186043904
 a:t.allowed.length≤8796093021952
 g:t.goal.length≤8796093021952
theorem Sn {t:Task} (h:U8 t):uZ t=some t:=by
 obtain⟨h1,h2,h3,h4⟩:=h
 unfold uZ pu gH
 rw [av (by omega),av (by omega),av (by omega),av (by omega)]
 rfl
theorem LH (p:aj) {t:Task} (h:JI t): ∃b,pM p t=some b:=by
 obtain⟨h1,h2,_,_⟩:=h
 have k0:aB (lZ p t) FUEL 0=some (bif (List.range t.fed.length).any (fun i=>bif decide (at' t.fed i<0)then true else decide ((p.racks.length:Int)≤at' t.fed i))then .ret false else .brk ()):=by
  refine bY t.fed.length _ false (by omega) (fun i hi=> ?_) (by unfold lZ;simp)
  unfold lZ
  simp only [Int.toNat_natCast]
  rw [rJ (by omega),cond_true,av ⟨by omega,fun _=>by omega⟩,wr (by omega)]
  exact eF _ _ _
 have k1:aB (lU p t) FUEL 0=some (bif (List.range t.crew.length).any (fun i=>bif decide (at' t.crew i<0)then true else decide (p.buses≤at' t.crew i))then .ret false else .brk ()):=by
  refine bY t.crew.length _ false (by omega) (fun i hi=> ?_) (by unfold lU;simp)
  unfold lU
  simp only [Int.toNat_natCast]
  rw [rJ (by omega),cond_true,av ⟨by omega,fun _=>by omega⟩,wr (by omega)]
  exact eF _ _ _
 unfold pM
 rw [k0]
 generalize (List.range t.fed.length).any _=b0
 cases b0 with
 |true=>exact⟨false,rfl⟩
 |false=>
  simp only [cond_false,Option.bind_some]
  rw [k1]
  generalize (List.range t.crew.length).any _=b1
  cases b1 with
  |true=>exact⟨false,rfl⟩
  |false=>exact⟨true,rfl⟩
section
variable {p:aj} (hp:VP p) {s:State} (hs:VS p s) {t:Task} (ht:mD p t=true) (hst:jC t) (h0:wu p s t=0) {l:List af} (hl:l.length≤40)
include hp hs ht hst h0 hl
end
theorem TK:nO=fq:=rfl
theorem Vx:uP=qV:=rfl
theorem NP:ol=kP:=rfl
def jb (a b:List Bool):Nat→Int
 |0=>0
 |k+1=>bif at' a k==at' b k then jb a b k else jb a b k+1
theorem jg (a b:List Bool): ∀k,0≤jb a b k∧jb a b k≤(k:Int)
 |0=> ⟨Int.le_refl _,Int.le_refl _⟩
 |k+1=>by
  have:=jg a b k
  unfold jb
  cases(at' a k==at' b k)<;>simp<;>omega
theorem kr (a:List Bool): ∀k,jb a a k=0
 |0=>rfl
 |k+1=>by unfold jb;rw [beq_self_eq_true,cond_true,kr a k]
theorem Iq {l:List Bool} {i:Nat} {v:Bool} (hi:i<l.length) (h:at' l i= !v): ∀k,k≤l.length→jb l (l.set i v) k=if i<k then 1 else 0
 |0,_=>by simp [jb]
 |k+1,hk=>by
  have ih:=Iq hi h k (by omega)
  unfold jb
  by_cases e:i=k
  ·subst e
   rw [aZ hi,h,ih,if_neg (by omega),if_pos (by omega)]
   cases v<;>rfl
  ·rw [bI e,beq_self_eq_true,cond_true,ih]
   by_cases c:i<k
   ·rw [if_pos c,if_pos (by omega)]
   ·rw [if_neg c,if_neg (by omega)]
theorem ow {l:List Bool} {i:Nat} {v:Bool} (hi:i<l.length) (h:at' l i= !v):jb l (l.set i v) l.length=1:=by
 rw [Iq hi h _ (Nat.le_refl _),if_pos hi]
theorem BD {ρ:Type} {a b:List Bool} {body:(Int × Int)→Option (aN (Int × Int) (Ex Int ρ))} {n0:Int} (hl:a.length=b.length) (ha:a.length≤1000) (hn:0≤n0∧n0≤100000)
  (hb:body=fun zz=>match zz with
   |(n,k)=>
    bif (decide (k<(a.length:Int)))then
    aL (((0:Int)≤k∧k<(a.length:Int))∧((0:Int)≤k∧k<(b.length:Int))) (
    bif (!((at' a k.toNat)==(at' b k.toNat)))then
    some (.next ((IntKind.wrap .i64 (n+1)),(IntKind.wrap .i64 (k+1))))
    else
    some (.next (n,(IntKind.wrap .i64 (k+1)))))
    else
    some (.done (.brk n))):aB body FUEL (n0,0)=some (.brk (n0+jb a b a.length)):=by
 subst hb
 have e:(n0,(0:Int))=(fun k:Nat=>(n0+jb a b k,(k:Int))) 0:=by simp [jb]
 rw [e]
 refine dA (fun k:Nat=>(n0+jb a b k,(k:Int))) a.length _ (fuel_lt (by omega)) (fun k hk=> ?_) ?_
 ·have hd:=jg a b k
  simp only [Int.toNat_natCast]
  rw [rJ (by omega),cond_true,av ⟨by omega,by omega⟩,wr (x:=n0+jb a b k+1) (by omega),wr (by omega)]
  rw [show jb a b (k+1)=bif at' a k==at' b k then jb a b k else jb a b k+1 from rfl]
  cases hq:(at' a k==at' b k)with
  |true=>rfl
  |false=>
   rw [show n0+(bif false then jb a b k else jb a b k+1)=n0+jb a b k+1 by rw [cond_false];omega]
   rfl
 ·simp only
  rw [decide_eq_false (show ¬ ((a.length:Int)<(a.length:Int)) by omega),cond_false]
def Qc (a b:State):Nat→Int
 |0=>jb a.closed b.closed a.closed.length
 |1=>jb a.locked b.locked a.locked.length
 |2=>jb a.badLink b.badLink a.badLink.length
 |3=>jb a.on_ b.on_ a.on_.length
 |4=>jb a.badSource b.badSource a.badSource.length
 |5=>jb a.earthed b.earthed a.earthed.length
 |_=>jb a.badBus b.badBus a.badBus.length
def Mx (a b:State):Nat→Int
 |0=>0
 |k+1=>Mx a b k+Qc a b k
theorem NJ {p:aj} (hp:VP p) {a b:State} (ha:VS p a) (hb:VS p b):kM a b=some (Mx a b 7):=by
 obtain⟨a1,a2,a3,a4,a5,a6,a7,_⟩:=ha
 obtain⟨b1,b2,b3,b4,b5,b6,b7,_⟩:=hb
 have h1:=hp.b;have h2:=hp.sl;have h3:=hp.ll
 have hD: ∀k,0≤Qc a b k∧Qc a b k≤1000:=fun k=>by
  have d0:=jg a.closed b.closed a.closed.length
  have d1:=jg a.locked b.locked a.locked.length
  have d2:=jg a.badLink b.badLink a.badLink.length
  have d3:=jg a.on_ b.on_ a.on_.length
  have d4:=jg a.badSource b.badSource a.badSource.length
  have d5:=jg a.earthed b.earthed a.earthed.length
  have d6:=jg a.badBus b.badBus a.badBus.length
  unfold Qc
  split<;>omega
 have hS: ∀k,0≤Mx a b k∧Mx a b k≤1000*(k:Int):=fun k=>by
  induction k with
  |zero=>exact⟨Int.le_refl _,Int.le_refl _⟩
  |succ k ih=>have:=hD k;unfold Mx;omega
 have key:aB (j5 a b) FUEL ((fun k:Nat=>(Mx a b k,(k:Int))) 0)=some (.brk (Mx a b 7)):=by
  refine dA (fun k:Nat=>(Mx a b k,(k:Int))) 7 _ (fuel_lt (by omega)) (fun k hk=> ?_) (by rfl)
  have hk:k=0∨k=1∨k=2∨k=3∨k=4∨k=5∨k=6:=by omega
  have hn:=hS k
  rcases hk with rfl|rfl|rfl|rfl|rfl|rfl|rfl
  all_goals
   unfold j5
   simp only
  ·rw [uX (by rfl),uX (by rfl),jy (by rw [decide_eq_true (by omega)];rfl),BD (body:=tK a b) (a:=a.closed) (b:=b.closed) (by omega) (by omega) (by omega) rfl];rfl
  ·rw [uX (by rfl),jy (by rfl),uX (by rfl),jy (by rw [decide_eq_true (by omega)];rfl),BD (body:=uI a b) (a:=a.locked) (b:=b.locked) (by omega) (by omega) (by omega) rfl];rfl
  ·rw [uX (by rfl),jy (by rfl),jy (by rfl),uX (by rfl),jy (by rw [decide_eq_true (by omega)];rfl),BD (body:=sP a b) (a:=a.badLink) (b:=b.badLink) (by omega) (by omega) (by omega) rfl];rfl
  ·rw [uX (by rfl),jy (by rfl),jy (by rfl),jy (by rfl),uX (by rfl),jy (by rw [decide_eq_true (by omega)];rfl),BD (body:=uH a b) (a:=a.on_) (b:=b.on_) (by omega) (by omega) (by omega) rfl];rfl
  ·rw [uX (by rfl),jy (by rfl),jy (by rfl),jy (by rfl),jy (by rfl),uX (by rfl),jy (by rw [decide_eq_true (by omega)];rfl),BD (body:=uD a b) (a:=a.badSource) (b:=b.badSource) (by omega) (by omega) (by omega) rfl];rfl
  ·rw [uX (by rfl),jy (by rfl),jy (by rfl),jy (by rfl),jy (by rfl),jy (by rfl),uX (by rfl),jy (by rw [decide_eq_true (by omega)];rfl),BD (body:=uM a b) (a:=a.earthed) (b:=b.earthed) (by omega) (by omega) (by omega) rfl];rfl
  ·rw [uX (by rfl),jy (by rfl),jy (by rfl),jy (by rfl),jy (by rfl),jy (by rfl),jy (by rfl),av (by rfl),jy (by rw [decide_eq_true (by omega)];rfl),BD (body:=sS a b) (a:=a.badBus) (b:=b.badBus) (by omega) (by omega) (by omega) rfl];rfl
 unfold kM
 rw [show aB (j5 a b) FUEL (0,0)=_ from key];rfl
theorem KJ {p:aj} (hp:VP p) {s:State} (hs:VS p s) {x:af} (hx:iA p x=true) (hh:holdB s x=false):kM s (gY s x)=some 1:=by
 rw [NJ hp hs (VS.Xp hp hs hx)]
 congr 1
 obtain⟨h0,h1,h2,h3,h4,h5⟩:=wS hs hx
 obtain⟨c1,c2,c3,c4,c5,c6,c7,c8⟩:=hs
 unfold holdB at hh
 rcases uG x.deed with e|e|e|e|e|e|e|e|e
 ·have:=(h1 (by omega)).1
  simp [e]at hh
  simp only [Mx,Qc,gY,e]
  simp only [kr,decide_true,Bool.true_or,cond_true]
  rw [ow (by omega) (by simpa using hh)];rfl
 ·have:=(h1 (by omega)).1
  simp [e]at hh
  simp only [Mx,Qc,gY,e]
  simp only [kr,decide_true,Bool.or_true,cond_true]
  rw [ow (by omega) (by simpa using hh)];rfl
 ·have:=h2 (by omega)
  simp [e]at hh
  simp only [Mx,Qc,gY,e]
  simp [kr]
  rw [ow (by omega) (by simpa using hh)]
 ·have:=h2 (by omega)
  simp [e]at hh
  simp only [Mx,Qc,gY,e]
  simp [kr]
  rw [ow (by omega) (by simpa using hh)]
 ·have:=(h1 (by omega)).1
  simp [e]at hh
  simp only [Mx,Qc,gY,e]
  simp [kr]
  rw [ow (by omega) (by simpa using hh)]
 ·have:=(h1 (by omega)).1
  simp [e]at hh
  simp only [Mx,Qc,gY,e]
  simp [kr]
  rw [ow (by omega) (by simpa using hh)]
 ·have:=h3 (by omega)
  simp [e]at hh
  simp only [Mx,Qc,gY,e]
  simp [kr]
  rw [ow (by omega) (by simpa using hh)]
 ·have:=h3 (by omega)
  simp [e]at hh
  simp only [Mx,Qc,gY,e]
  simp [kr]
  rw [ow (by omega) (by simpa using hh)]
 ·omega
theorem Qy {p:aj} {s:State} (hs:VS p s) {x:af} (hx:iA p x=true):holdB (gY s x) x=true:=by
 obtain⟨h0,h1,h2,h3,h4,h5⟩:=wS hs hx
 obtain⟨c1,c2,c3,c4,c5,c6,c7,c8⟩:=hs
 rcases uG x.deed with e|e|e|e|e|e|e|e|e
 ·have:=(h1 (by omega)).1
  unfold holdB gY;simp [e];rw [aZ (by omega)]
 ·have:=(h1 (by omega)).1
  unfold holdB gY;simp [e];rw [aZ (by omega)]
 ·have:=h2 (by omega)
  unfold holdB gY;simp [e];rw [aZ (by omega)]
 ·have:=h2 (by omega)
  unfold holdB gY;simp [e];rw [aZ (by omega)]
 ·have:=(h1 (by omega)).1
  unfold holdB gY;simp [e];rw [aZ (by omega)]
 ·have:=(h1 (by omega)).1
  unfold holdB gY;simp [e];rw [aZ (by omega)]
 ·have:=h3 (by omega)
  unfold holdB gY;simp [e];rw [aZ (by omega)]
 ·have:=h3 (by omega)
  unfold holdB gY;simp [e];rw [aZ (by omega)]
 ·omega
theorem xO {p:aj} {s:State} {t:Task} (h:wu p s t=0):(∀b,b<p.buses.toNat→DF p s b=false)∧ ¬ KA p s∧(∀r∈t.fed,yB p s r=false)∧ ∀b∈t.crew,yX p s t.crew b=false:=by
 unfold wu at h
 cases h1:(List.range p.buses.toNat).any (DF p s)with
 |true=>rw [h1]at h;simp at h
 |false=>
  cases h2:FX p s with
  |true=>rw [h1,h2]at h;simp at h
  |false=>
   cases h3:t.fed.any (yB p s)with
   |true=>rw [h1,h2,h3]at h;simp at h
   |false=>
    cases h4:t.crew.any (yX p s t.crew)with
    |true=>rw [h1,h2,h3,h4]at h;simp at h
    |false=>
     rw [List.any_eq_false]at h1 h3 h4
     refine⟨fun b hb=>by simpa using h1 b (List.mem_range.2 hb), ?_,fun r hr=>by simpa using h3 r hr,fun b hb=>by simpa using h4 b hb⟩
     unfold FX at h2
     exact @of_decide_eq_false (KA p s) (Classical.propDecidable _) h2
section
variable {p:aj} (hp:VP p) {s:State} (hs:VS p s) {crew:List Int} (hc:crew.length≤24) {b:Int} (hb:0≤b∧b<p.buses) (hu:yX p s crew b=false)
include hp hs hc hb hu
theorem V6 (i:Nat) (hi:i<p.links.length):aB (iW p crew b (i:Int)) FUEL (false,0)=some (.brk (decide ((at' p.links i).a+(at' p.links i).b - b∈crew))):=by
 have hl:=hp.lnk i hi
 have ha:=hl.a;have hbb:=hl.b;have hpb:=hp.b
 have e:(false,(0:Int))=(fun k:Nat=>(decide ((at' p.links i).a+(at' p.links i).b - b∈crew.take k),(k:Int))) 0:=by simp
 rw [e]
 have e2:decide ((at' p.links i).a+(at' p.links i).b - b∈crew)=decide ((at' p.links i).a+(at' p.links i).b - b∈crew.take crew.length):=by rw [List.take_length]
 rw [e2]
 refine dA (fun k:Nat=>(decide ((at' p.links i).a+(at' p.links i).b - b∈crew.take k),(k:Int))) crew.length _ (fuel_lt (by omega)) (fun k hk=> ?_) ?_
 ·unfold iW
  simp only [Int.toNat_natCast]
  have hw:IntKind.wrap .i64 (IntKind.wrap .i64 ((at' p.links i).a+(at' p.links i).b) - b)=(at' p.links i).a+(at' p.links i).b - b:=by
   rw [wr (x:=(at' p.links i).a+(at' p.links i).b) (by omega),wr (by omega)]
  rw [rJ (by omega),cond_true,av (fun _=>by omega),wr (x:=(k:Int)+1) (by omega)]
  simp only [hw]
  rw [eO]
  have:(decide ((at' p.links i).a+(at' p.links i).b - b∈crew.take k)||decide (at' crew k=(at' p.links i).a+(at' p.links i).b - b))=decide ((at' p.links i).a+(at' p.links i).b - b∈crew.take (k+1)):=by
   rw [Bool.eq_iff_iff,Bool.or_eq_true,decide_eq_true_iff,decide_eq_true_iff,decide_eq_true_iff,mU hk,List.mem_append,List.mem_singleton]
   exact⟨fun h=>h.elim .inl fun h=> .inr h.symm,fun h=>h.elim .inl fun h=> .inr h.symm⟩
  rw [this];rfl
 ·unfold iW
  simp only
  rw [decide_eq_false (show ¬ ((crew.length:Int)<(crew.length:Int)) by omega),cond_false]
theorem VB:o7 p s crew b=some true:=by
 have hll:=hp.ll;have l1:=hs.closed;have l2:=hs.locked
 have hu0:=hu
 unfold yX at hu
 rw [Bool.or_eq_false_iff,List.any_eq_false,Bool.or_eq_false_iff]at hu
 obtain⟨_,hu⟩:=hu
 have key:aB (lM p s crew b) FUEL 0=some (.brk ()):=by
  refine FY p.links (by omega) (fun i hi=> ?_) (by unfold lM;simp)
  have hper:JV p s crew b i=false:=by simpa using hu i (List.mem_range.2 hi)
  have hL1:=V6 hp hs hc hb hu0 i hi
  unfold lM
  simp only [Int.toNat_natCast]
  revert hL1
  generalize aB (iW p crew b (i:Int)) FUEL (false,0)=o1
  intro hL1
  subst hL1
  rw [rJ (by omega),cond_true,av (by omega),wr (by omega)]
  unfold JV at hper
  rw [gU]
  cases c1:(decide ((at' p.links i).a=b)||decide ((at' p.links i).b=b))with
  |false=>
   rw [Bool.or_eq_false_iff]at c1
   rw [c1.1,c1.2];rfl
  |true=>
   have:(!decide ((at' p.links i).a=b) && !decide ((at' p.links i).b=b))=false:=by
    rw [←Bool.not_or,c1];rfl
   rw [this,cond_false,Option.bind_some]
   simp only
   rw [av ⟨fun _=>by omega,fun _=>by omega⟩,eO,gU,jy]
   rw [c1]at hper
   cases h2:decide ((at' p.links i).a+(at' p.links i).b - b∈crew)with
   |true=>rfl
   |false=>
    rw [h2]at hper
    cases h3:at' s.closed i<;>cases h4:at' s.locked i<;>rw [h3,h4]at hper<;>simp at hper ⊢
 unfold o7
 rw [key];rfl
end
section
variable {p:aj} (hp:VP p) {t:Task} (ht:mD p t=true) {s:State} (hs:VS p s) (hl:wu p s t=0) (n e:Int)
include hp ht hs hl
theorem YS:aB (eX p (n,s,e) (lD p s,0)) FUEL 0=some (.brk ()):=by
 obtain⟨q1,_,_,_⟩:=xO hl
 obtain⟨_,_,h3⟩:=wO hp hs
 have hpb:=hp.b;have l3:=hs.earthed
 refine dA (body:=eX p (n,s,e) (lD p s,0)) (fun k:Nat=>(k:Int)) p.buses.toNat _ (fuel_lt (by omega)) (fun k hk=> ?_) ?_
 ·have:=q1 k hk
  unfold DF at this
  unfold eX
  simp only [Int.toNat_natCast]
  rw [rJ (by omega),cond_true,av ⟨by omega,fun _=>by omega⟩,gU,this,cond_false,wr (by omega)]
  rfl
 ·unfold eX
  simp only
  rw [decide_eq_false (by omega),cond_false]
theorem ZT:aB (gq t (tab p.racks.length (Hl p (lD p s)),0)) FUEL 0=some (.brk ()):=by
 obtain⟨_,_,q3,_⟩:=xO hl
 obtain⟨⟨f1,f2⟩,_,_,_⟩:=dL ht
 have hrl:=hp.rl
 refine FY t.fed (by omega) (fun k hk=> ?_) (by unfold gq;simp)
 have hx:=f2 _ (at_mem hk)
 have:=q3 _ (at_mem hk)
 unfold yB at this
 unfold gq
 simp only [Int.toNat_natCast]
 rw [rJ (by omega),cond_true,av ⟨by omega,by rw [bn];omega,fun _=>by omega,fun _=>by rw [bn];omega⟩,gT (by omega),gU,this,cond_false,wr (by omega)]
theorem XR:aB (gu p t (n,s,e) (lD p s,0)) FUEL 0=some (.brk ()):=by
 obtain⟨q1,_,_,q4⟩:=xO hl
 obtain⟨_,⟨c1,c2⟩,_,_⟩:=dL ht
 obtain⟨_,_,h3⟩:=wO hp hs
 have hpb:=hp.b;have l3:=hs.earthed
 refine FY t.crew (by omega) (fun k hk=> ?_) (by unfold gu;simp)
 have hx:=c2 _ (at_mem hk)
 have hu:=q4 _ (at_mem hk)
 have hcut:=VB hp hs c1 hx hu
 have hea:at' s.earthed (at' t.crew k).toNat=true:=by
  unfold yX at hu
  rw [Bool.or_eq_false_iff,Bool.or_eq_false_iff]at hu
  simpa using hu.1.1
 have hli:at' (lD p s) (at' t.crew k).toNat=false:=by
  have:=q1 (at' t.crew k).toNat (by omega)
  unfold DF at this
  rw [hea,Bool.and_true]at this;exact this
 unfold gu
 simp only [Int.toNat_natCast]
 rw [rJ (by omega),cond_true,uX (by rw [hli,hea];rfl),hcut,Option.bind_some,av ⟨by omega,by omega,fun _=>by omega,fun _=>by omega,fun _=>by omega⟩,wr (by omega),jy (by rw [hli,hea];rfl)]
end
section
variable {p:aj} (hp:VP p) {t:Task} (ht:mD p t=true) (hst:jC t) {l:List af} (hl:l.length≤40)
include hp ht hst hl
theorem Pw {i:Nat} (hi:i<l.length) {now:State} (hv:VS p now) (h0:wu p now t=0) (hz:(nextR p now t (at' l i)).2=0):
  bZ p t l t (now.closed,now.locked,now.badLink,now.on_,now.badSource,now.earthed,now.badBus,(i:Int))=some (.next ((nextR p now t (at' l i)).1.closed,(nextR p now t (at' l i)).1.locked,(nextR p now t (at' l i)).1.badLink,(nextR p now t (at' l i)).1.on_,(nextR p now t (at' l i)).1.badSource,(nextR p now t (at' l i)).1.earthed,(nextR p now t (at' l i)).1.badBus,((i+1:Nat):Int))):=by
 have hL:oI p now t=0:=by rw [Ci hp hv ht];exact h0
 have hsm:=VP.small hp
 obtain⟨q1,q2,q3,q4⟩:=qF hp hv hz
 obtain⟨g1,g2⟩:=wP q1
 have hch:=KJ hp hv g1 g2
 have hha:=Qy hv g1
 rw [←q2]at q3 q4 hch hha
 generalize hst':(nextR p now t (at' l i)).1=st at*
 obtain⟨k1,_,k3⟩:=wO hp q3
 obtain⟨cl,cl1,cl2⟩:=Fv hp q3
 have hcl:cl=[]:=by
  cases cl with
  |nil=>rfl
  |cons a b=>exact absurd (cl2.1 (by simp)) (xO q4).2.1
 subst hcl
 have l3:=q3.earthed;have l1:=q3.closed
 have hL1:=YS hp ht q3 q4 1 0
 have hL2:=ZT hp ht q3 q4
 have hL3:=XR hp ht q3 q4 1 0
 have hH1:jk p st (at' l i)=some (true,0):=by
  rw [Lm hsm];unfold NY;rw [if_neg (by simp [dD.mpr ⟨hp,q3⟩]),g1,if_pos rfl,hha]
 have hH2:jk p now (at' l i)=some (false,0):=by
  rw [Lm hsm];unfold NY;rw [if_neg (by simp [dD.mpr ⟨hp,hv⟩]),g1,if_pos rfl,g2]
 have hv1:dP p (⟨now.closed,now.locked,now.badLink,now.on_,now.badSource,now.earthed,now.badBus⟩:State) t (Fq l (i:Int).toNat ((((i:Int)+1).toNat) - (i:Int).toNat))=some (1,st,0):=by
  rw [show(⟨now.closed,now.locked,now.badLink,now.on_,now.badSource,now.earthed,now.badBus⟩:State)=now from rfl,show(((i:Int)+1).toNat) - (i:Int).toNat=1 by omega,Int.toNat_natCast,Ou,zV hsm now hst,LG hL,if_pos hz,hst']
 unfold bZ
 dsimp only
 rw [rJ (by omega),cond_true,wr (by omega),hv1,Option.bind_some,av (by omega),TK,Vx,NP,jy (by rfl),k1,Option.bind_some,Ke hp q3 k1 k3,Option.bind_some,cl1,Option.bind_some]
 revert hL1 hL2 hL3
 dsimp only
 generalize aB (eX p (1,st,0) (lD p st,0)) FUEL 0=o1
 generalize aB (gq t (tab p.racks.length (Hl p (lD p st)),0)) FUEL 0=o2
 generalize aB (gu p t (1,st,0) (lD p st,0)) FUEL 0=o3
 intro hL1 hL2 hL3
 subst hL1
 subst hL2
 subst hL3
 rw [jy (by
  rw [decide_eq_true (show((lD p st).length:Int)=p.buses from k3),bn,decide_eq_true (show(st.earthed.length:Int)=p.buses from l3),decide_eq_true (show(st.closed.length:Int)=(p.links.length:Int) by omega)]
  simp),Option.bind_some]
 dsimp only
 rw [Option.bind_some]
 dsimp only
 rw [Option.bind_some]
 dsimp only
 rw [Int.toNat_natCast,hH1,Option.bind_some,av (by omega),show(⟨now.closed,now.locked,now.badLink,now.on_,now.badSource,now.earthed,now.badBus⟩:State)=now from rfl,hH2,Option.bind_some,av (by omega),hch]
 simp [gB]
theorem JG: ∀(n i:Nat) (now:State),i+n=l.length→VS p now→wu p now t=0→
  ∃k,k≤n+1∧aB (bZ p t l t) k (now.closed,now.locked,now.badLink,now.on_,now.badSource,now.earthed,now.badBus,(i:Int))=some (.brk ())
 |0,i,now,hi,hv,h0=>by
  refine⟨1,by omega, ?_⟩
  rw [aG]
  unfold bZ
  simp only
  rw [decide_eq_false (show ¬ (i:Int)<(l.length:Int) by omega),cond_false]
 |n+1,i,now,hi,hv,h0=>by
  have hL:oI p now t=0:=by rw [Ci hp hv ht];exact h0
  have hsm:=VP.small hp
  by_cases hz:(nextR p now t (at' l i)).2=0
  ·obtain⟨q1,q2,q3,q4⟩:=qF hp hv hz
   obtain⟨k,hk1,hk2⟩:=JG n (i+1) (nextR p now t (at' l i)).1 (by omega) (by rw [q2];exact q3) (by rw [q2];exact q4)
   refine⟨k+1,by omega, ?_⟩
   rw [aG,Pw hp ht hst hl (by omega) hv h0 hz];exact hk2
  ·obtain⟨k,hk1,hk2⟩:=JG n (i+1) now (by omega) hv h0
   refine⟨k+1,by omega, ?_⟩
   have hstep:bZ p t l t (now.closed,now.locked,now.badLink,now.on_,now.badSource,now.earthed,now.badBus,(i:Int))=some (.next (now.closed,now.locked,now.badLink,now.on_,now.badSource,now.earthed,now.badBus,((i+1:Nat):Int))):=by
    have hv1:dP p (⟨now.closed,now.locked,now.badLink,now.on_,now.badSource,now.earthed,now.badBus⟩:State) t (Fq l (i:Int).toNat ((((i:Int)+1).toNat) - (i:Int).toNat))=some (0,fE,(nextR p now t (at' l i)).2):=by
     rw [show(⟨now.closed,now.locked,now.badLink,now.on_,now.badSource,now.earthed,now.badBus⟩:State)=now from rfl,show(((i:Int)+1).toNat) - (i:Int).toNat=1 by omega,Int.toNat_natCast,Ou,zV hsm now hst,LG hL,if_neg hz]
    unfold bZ
    dsimp only
    rw [rJ (by omega),cond_true,wr (by omega),hv1,Option.bind_some,av (by omega),uX (by simp [hz])]
    rfl
   rw [aG,hstep];exact hk2
end
theorem EN {p:aj} (s:State) (t:Task) (l:List af) (hp:Small p) (hr:U8 t):lV p s t l=some true:=by
 unfold lV
 rw [Sn hr,Option.bind_some,Wi,Option.bind_some]
 cases hb:SN p t with
 |true=>rw [jy (by rfl),Option.bind_some,jy (by rfl),Option.bind_some,uX (by rfl),sU];rfl
 |false=>
  obtain⟨h6,h7⟩:=MI hb
  have hst:=h7.small
  obtain⟨w,hw⟩:=LH p h7
  rw [uX (by rfl),hw,Option.bind_some]
  cases w with
  |false=>rw [jy (by rfl),Option.bind_some,uX (by rfl),sU];rfl
  |true=>
   by_cases hl:40<l.length
   ·have hd:decide (40<(l.length:Int))=true:=decide_eq_true (by omega)
    rw [hd,jy (by rfl),Option.bind_some,uX (by rfl),sU];rfl
   ·have hd:decide (40<(l.length:Int))=false:=decide_eq_false (by omega)
    rw [hd,uX (by rfl),qP hp s hst,Option.bind_some]
    by_cases h:oI p s t=0
    ·obtain⟨h1,h2,h3,h4⟩:=jP h
     rw [jy (by simp [h])]
     obtain⟨k,hk1,hk2⟩:=JG h1 h3 hst (l:=l) (by omega) l.length 0 s (by omega) h2 h4
     have hk3:aB (bZ p t l t) FUEL (s.closed,s.locked,s.badLink,s.on_,s.badSource,s.earthed,s.badBus,0)=some (.brk ()):=dN hk2 (by unfold FUEL;omega)
     revert hk3
     generalize aB (bZ p t l t) FUEL (s.closed,s.locked,s.badLink,s.on_,s.badSource,s.earthed,s.badBus,0)=o0
     intro hk3
     subst hk3
     rw [sU];rfl
    ·rw [uX (by simp [h]),sU];rfl
end Sg
