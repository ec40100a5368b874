import Derived.Test.YtboodeobmgjjpaaGreatReLe
import Derived.KernelRfl
import Derived.Test.YtboodeobmgjjpaaGreatReLc
import Derived.SizedLaws
set_option linter.all false
namespace Sg
open Go
abbrev PR:=Nat × List af × List State × Int × Int × Search
def Yu (p:aj) (o:Option (Ex (List Reached × List (List Bool × Bool) × Int) PR)):Out→Prop
 | .go ls fb=> ∃kn,Kn p ls kn∧o=some (.brk (rL ls fb,kn, -1))
 | .large=> ∃f x,o=some (.ret (3,[],[],8,f,x))
 | .found ls fb=> ∃kn,Kn p ls kn∧(o=some (.ret (2,[],[],0,(ls.length:Int) - 1,⟨rL ls fb,kn⟩))∨o=some (.brk (rL ls fb,kn,(ls.length:Int) - 1)))
section
variable {p:aj} (hp:VP p) {t:Task} (ht:kD p t=true) {most:Int} (hm:1≤most∧most≤20000)
include hp ht hm
theorem DX {now:State} (hn:VS p now) (i:Nat): ∀(n k:Nat) (ls:List State) (fb:List (Int × af)) (kn:List (List Bool × Bool)),Rc p most ls fb→i<ls.length→Kn p ls kn→k+n=t.allowed.length→
  ∃m,m≤n+2∧Yu p (aA (bN (i:Int) now.closed now.locked now.badLink now.on_ now.badSource now.earthed now.badBus p t most [] [] 0) m (rL ls fb,kn, -1,(k:Int))) (Io p t most now i n k ls fb)
 |0,k,ls,fb,kn,h,hi,hk,hkn=>by
  refine⟨1,by omega,kn,hk, ?_⟩
  have:decide ((k:Int)<(t.allowed.length:Int))=false:=decide_eq_false (by omega)
  rw [aD]
  unfold bN
  simp only [this,cond_false]
 |n+1,k,ls,fb,kn,h,hi,hk,hkn=>by
  obtain⟨_,_,⟨al,ax⟩,⟨gl,gx⟩⟩:=dG ht
  have hb:bN (i:Int) now.closed now.locked now.badLink now.on_ now.badSource now.earthed now.badBus p t most [] [] 0 (rL ls fb,kn, -1,(k:Int))=
    (bif (!decide ((nextR p now t (at' t.allowed k)).2=0))then some (.next (rL ls fb,kn, -1,((k+1:Nat):Int)))else
     (dR (nextR p now t (at' t.allowed k)).1 (i:Int) (at' t.allowed k) ⟨rL ls fb,kn⟩).bind fun r_1=>
      bif (!r_1.1)then some (.next (r_1.2.l,r_1.2.known, -1,((k+1:Nat):Int)))else
      bif (decide (most<(r_1.2.l.length:Int)))then some (.done (.ret (3,([]:List af),([]:List State),8, -1,r_1.2)))else
      (lN (nextR p now t (at' t.allowed k)).1 t.goal).bind fun r_2=>
      bif r_2 then some (.next (r_1.2.l,r_1.2.known,(IntKind.wrap .i64 ((r_1.2.l.length:Int) - 1)),((k+1:Nat):Int)))else some (.next (r_1.2.l,r_1.2.known, -1,((k+1:Nat):Int)))):=by
   unfold bN
   simp only [Int.toNat_natCast]
   rw [r9 (by omega),cond_true,av (by omega)]
   have h0:decide ((0:Int)≤ -1)=false:=by decide
   rw [h0,cond_false,show(⟨now.closed,now.locked,now.badLink,now.on_,now.badSource,now.earthed,now.badBus⟩:State)=now from rfl,Iy hp hn ht,Option.bind_some,wr (x:=(k:Int)+1) (by omega)]
   rfl
  unfold Io
  by_cases h1:(nextR p now t (at' t.allowed k)).2=0
  ·have hv:=nA hp hn h1
   have hvs:VS p (nextR p now t (at' t.allowed k)).1:=by rw [hv.2.1];exact hv.2.2.1
   rw [if_neg (by simp [h1])]
   have hll:=h.most
   rw [h1,decide_eq_true rfl,Bool.not_true,cond_false,add_eq (x:=⟨rL ls fb,kn⟩) hk hvs (i:Int) (at' t.allowed k) (by show(rL ls fb).length≤_;rw [nN];omega),Option.bind_some]at hb
   by_cases h2:(nextR p now t (at' t.allowed k)).1∈ls
   ·rw [if_pos h2]
    rw [decide_eq_true h2]at hb
    simp only [cond_true,Bool.not_false]at hb
    obtain⟨m,hm1,hm2⟩:=DX hn i n (k+1) ls fb kn h hi hk (by omega)
    refine⟨m+1,by omega, ?_⟩
    rw [aD,hb];exact hm2
   ·rw [if_neg h2]
    rw [decide_eq_false h2]at hb
    simp only [cond_false,Bool.not_true]at hb
    simp only [VG h.len,nN]at hb
    by_cases h3:most<((ls++[(nextR p now t (at' t.allowed k)).1]).length:Int)
    ·rw [if_pos h3]
     rw [decide_eq_true h3,cond_true]at hb
     exact⟨1,by omega,_,_,by rw [aD,hb]⟩
    ·rw [if_neg h3]
     rw [decide_eq_false h3,cond_false,Ig hvs (by omega) gx,Option.bind_some]at hb
     have hr:=h.add hvs hi (x:=at' t.allowed k) (by omega)
     have hkn2:=hk.add hp hvs
     have hlen:((ls++[(nextR p now t (at' t.allowed k)).1]).length:Int)≤20000:=by omega
     cases h4:pW (nextR p now t (at' t.allowed k)).1 t.goal with
     |true=>
      rw [if_pos rfl]
      rw [h4,cond_true,wr (by omega)]at hb
      by_cases h5:k+1<t.allowed.length
      ·refine⟨2,by omega,_,hkn2, .inl ?_⟩
       rw [aD,hb]
       simp only
       rw [aD]
       unfold bN
       simp only [Int.toNat_natCast]
       rw [r9 (by omega),cond_true,av (by omega)]
       have hps:=hr.pos
       rw [decide_eq_true (show(0:Int)≤((ls++[(nextR p now t (at' t.allowed k)).1]).length:Int) - 1 by omega)]
       rfl
      ·refine⟨2,by omega,_,hkn2, .inr ?_⟩
       rw [aD,hb]
       simp only
       rw [aD]
       unfold bN
       have:decide (((k+1:Nat):Int)<(t.allowed.length:Int))=false:=decide_eq_false (by omega)
       simp only [this,cond_false]
     |false=>
      rw [if_neg (by simp)]
      rw [h4,cond_false]at hb
      obtain⟨m,hm1,hm2⟩:=DX hn i n (k+1) _ _ _ hr (by simp;omega) hkn2 (by omega)
      refine⟨m+1,by omega, ?_⟩
      rw [aD,hb];exact hm2
  ·rw [if_pos h1]
   rw [decide_eq_false h1,Bool.not_false,cond_true]at hb
   obtain⟨m,hm1,hm2⟩:=DX hn i n (k+1) ls fb kn h hi hk (by omega)
   refine⟨m+1,by omega, ?_⟩
   rw [aD,hb];exact hm2
theorem Ey {now:State} (i:Int) {f:Int} (hf:0≤f) (x:Search):dz i now.closed now.locked now.badLink now.on_ now.badSource now.earthed now.badBus p t most [] [] 0 f x=
  some (if t.allowed=[]then(0,[],[],0,f,x)else(2,[],[],0,f,x)):=by
 obtain⟨_,_,⟨al,ax⟩,_⟩:=dG ht
 unfold dz
 have hF: ∃k,FUEL=k+1:=⟨1180591620717411303423,rfl⟩
 obtain⟨k,hk⟩:=hF
 rw [hk,aD]
 unfold bN
 by_cases h:t.allowed=[]
 ·rw [if_pos h]
  have:decide ((0:Int)<(t.allowed.length:Int))=false:=decide_eq_false (by rw [h];simp)
  simp only [this,cond_false]
  rfl
 ·rw [if_neg h]
  have hpos:=List.length_pos_iff.2 h
  simp only
  rw [r9 (by omega),cond_true,av (by omega),decide_eq_true hf]
  rfl
def YG (p:aj) (o:Option (Ex (List af × List State × Int × List Reached × List (List Bool × Bool) × Int) PR)):Out→Prop
 | .go ls fb=> ∃kn,o=some (.brk ([],[],0,rL ls fb,kn, -1))
 | .large=> ∃f x,o=some (.ret (3,[],[],8,f,x))
 | .found ls fb=> ∃kn,o=some (.ret (2,[],[],0,(ls.length:Int) - 1,⟨rL ls fb,kn⟩))
omit hp ht hm in
noncomputable def Lj (p:aj) (t:Task) (most:Int):Nat→Nat→List State→List (Int × af)→Out
 |0,_,ls,fb=> .go ls fb
 |F+1,i,ls,fb=>if i<ls.length then(match Io p t most (at' ls i) i t.allowed.length 0 ls fb with| .go ls' fb'=>Lj p t most F (i+1) ls' fb'| .large=> .large| .found ls' fb'=> .found ls' fb')else .go ls fb
theorem NS {now:State} (i:Nat): ∀(n k:Nat) (ls:List State) (fb:List (Int × af)) (ls':List State) (fb':List (Int × af)),k+n=t.allowed.length→Io p t most now i n k ls fb= .found ls' fb'→t.allowed≠[]
 |0,_,_,_,_,_,_,h=>by unfold Io at h;cases h
 |n+1,k,ls,fb,ls',fb',hk,h=>by intro e;rw [e]at hk;simp at hk
theorem Nu: ∀(F i:Nat) (ls:List State) (fb:List (Int × af)) (kn:List (List Bool × Bool)),Rc p most ls fb→i≤ls.length→Kn p ls kn→most<(i:Int)+(F:Int)→
  ∃m,m≤F+2∧YG p (aA (aX p t most) m ([],[],0,rL ls fb,kn, -1,(i:Int))) (Lj p t most F i ls fb)
 |0,i,ls,fb,kn,h,hi,hk,hF=>by have:=h.most;omega
 |F+1,i,ls,fb,kn,h,hi,hk,hF=>by
  have hll:=h.most
  by_cases hlt:i<ls.length
  ·have hn:VS p (at' ls i):=h.vs _ (at_mem hlt)
   have hs:(at' (rL ls fb) i).s_=at' ls i:=by unfold rL;rw [iA hlt]
   obtain⟨m0,hm0,hres⟩:=DX hp ht hm hn i t.allowed.length 0 ls fb kn h hlt hk (by omega)
   have hal:=(dG ht).2.2.1.1
   have hY: ∀r,dz (i:Int) (at' ls i).closed (at' ls i).locked (at' ls i).badLink (at' ls i).on_ (at' ls i).badSource (at' ls i).earthed (at' ls i).badBus p t most [] [] 0 (-1) ⟨rL ls fb,kn⟩=some r→
     aX p t most ([],[],0,rL ls fb,kn, -1,(i:Int))=(bif (Nat.beq r.1 0)then some (.next (r.2.1,r.2.2.1,r.2.2.2.1,r.2.2.2.2.2.l,r.2.2.2.2.2.known,r.2.2.2.2.1,((i+1:Nat):Int)))else some (.done (.ret (r.1,r.2.1,r.2.2.1,r.2.2.2.1,r.2.2.2.2.1,r.2.2.2.2.2)))):=by
    intro r hr
    unfold aX
    simp only [Int.toNat_natCast,hs]
    rw [r9 (by rw [nN];omega),cond_true,hr,Option.bind_some,av (by rw [nN];omega),av (by rw [nN];omega),wr (by omega)]
    rfl
   have hE: ∀o,aA (bN (i:Int) (at' ls i).closed (at' ls i).locked (at' ls i).badLink (at' ls i).on_ (at' ls i).badSource (at' ls i).earthed (at' ls i).badBus p t most [] [] 0) m0 (rL ls fb,kn, -1,((0:Nat):Int))=some o→
     aA (bN (i:Int) (at' ls i).closed (at' ls i).locked (at' ls i).badLink (at' ls i).on_ (at' ls i).badSource (at' ls i).earthed (at' ls i).badBus p t most [] [] 0) FUEL (rL ls fb,kn, -1,0)=some o:=fun o ho=>dO ho (by unfold FUEL;omega)
   have hok:=Cz hp ht hm hn i t.allowed.length 0 ls fb h hlt
   have hfd:=NS (now:=at' ls i) hp ht hm i t.allowed.length 0 ls fb
   unfold Lj
   rw [if_pos hlt]
   revert hres hok hfd
   cases Io p t most (at' ls i) i t.allowed.length 0 ls fb with
   |go ls' fb'=>
    rintro ⟨kn',hk',ho⟩ hok _
    have hy:=hY (0,[],[],0, -1,⟨rL ls' fb',kn'⟩) (by unfold dz;rw [hE _ ho];rfl)
    obtain⟨m,hm1,hm2⟩:=Nu F (i+1) ls' fb' kn' hok.1 (by have:=hok.2;omega) hk' (by omega)
    refine⟨m+1,by omega, ?_⟩
    rw [aD,hy]
    exact hm2
   |large=>
    rintro ⟨f,x,ho⟩ _ _
    have hy:=hY (3,[],[],8,f,x) (by unfold dz;rw [hE _ ho];rfl)
    exact⟨1,by omega,f,x,by rw [aD,hy];rfl⟩
   |found ls' fb'=>
    rintro ⟨kn',hk',ho⟩ hok hfd
    have hne:=hfd ls' fb' (by omega) rfl
    rcases ho with ho|ho
    ·have hy:=hY (2,[],[],0,(ls'.length:Int) - 1,⟨rL ls' fb',kn'⟩) (by unfold dz;rw [hE _ ho];rfl)
     exact⟨1,by omega,kn',by rw [aD,hy];rfl⟩
    ·have hy:=hY (0,[],[],0,(ls'.length:Int) - 1,⟨rL ls' fb',kn'⟩) (by unfold dz;rw [hE _ ho];rfl)
     refine⟨2,by omega,kn', ?_⟩
     have hlt2:=hok.2
     have hpos:=hok.1.pos
     rw [aD,hy]
     simp only [show Nat.beq 0 0=true from rfl,cond_true]
     rw [aD]
     have hs2:(at' (rL ls' fb') (i+1)).s_=at' ls' (i+1):=by unfold rL;rw [iA (by omega)]
     have hm2:=hok.1.most
     unfold aX
     simp only [Int.toNat_natCast,hs2]
     rw [r9 (by rw [nN];omega),cond_true,Ey (now:=at' ls' (i+1)) hp ht hm _ (by omega),if_neg hne,Option.bind_some]
     simp only [show Nat.beq 2 0=false from rfl,cond_false]
     rw [av (by rw [nN];omega)]
  ·refine⟨1,by omega, ?_⟩
   unfold Lj
   rw [if_neg hlt]
   refine⟨kn, ?_⟩
   have:decide ((i:Int)<((rL ls fb).length:Int))=false:=decide_eq_false (by rw [nN];omega)
   rw [aD]
   unfold aX
   simp only [this,cond_false]
theorem Pt: ∀(F i:Nat) (ls:List State) (fb:List (Int × af)),Rc p most ls fb→Uj p most 0 (Lj p t most F i ls fb)
 |0,_,ls,fb,h=> ⟨h,Nat.zero_le _⟩
 |F+1,i,ls,fb,h=>by
  unfold Lj
  by_cases hlt:i<ls.length
  ·rw [if_pos hlt]
   have hok:=Cz hp ht hm (h.vs _ (at_mem hlt)) i t.allowed.length 0 ls fb h hlt
   revert hok
   cases Io p t most (at' ls i) i t.allowed.length 0 ls fb with
   |go ls' fb'=>exact fun hok=>Pt F (i+1) ls' fb' hok.1
   |large=>exact fun _=>trivial
   |found ls' fb'=>exact fun hok=> ⟨hok.1,by have:=hok.2;omega⟩
  ·rw [if_neg hlt];exact⟨h,Nat.zero_le _⟩
end
theorem Ed {p:aj} {s:State} (hs:VS p s) {most:Int} (hm:1≤most∧most≤20000) (x:af):Rc p most [s] [(-1,x)]:=
 ⟨fun u hu=>by rw [List.mem_singleton]at hu;rw [hu];exact hs,rfl,by simp,by simp;omega,fun j hj h0=>by simp at hj;omega⟩
theorem Ej {p:aj} {most:Int} {ls:List State} {fb:List (Int × af)} (h:Rc p most ls fb) (hm:most≤20000) {j:Nat} (hj:j<ls.length) (kn:List (List Bool × Bool)):
  bY (j:Int) ⟨rL ls fb,kn⟩=some (path fb j):=by
 have hll:=h.most;have hlen:=h.len
 have run: ∀(n j:Nat) (out:List af),j<ls.length→j<n→out.length+n≤100000→ ∃m,m≤n+1∧aA (dY ⟨rL ls fb,kn⟩) m ((j:Int),out)=some (.brk (out++(om fb n (j:Int)).reverse)):=by
  intro n
  induction n with
  |zero=>intro j out _ h1 _;omega
  |succ n ih=>
   intro j out hj h1 ho
   by_cases c:(j:Int)≤0
   ·refine⟨1,by omega, ?_⟩
    rw [aD]
    unfold dY om
    have:decide ((0:Int)<(j:Int))=false:=decide_eq_false (by omega)
    simp only [this,cond_false,if_pos c,List.reverse_nil,List.append_nil]
   ·have hf:=h.from_ j (by omega) (by omega)
    have hb:dY ⟨rL ls fb,kn⟩ ((j:Int),out)=some (.next ((at' fb j).1,out++[(at' fb j).2])):=by
     unfold dY
     simp only [Int.toNat_natCast]
     have e1:at' (rL ls fb) j=⟨at' ls j,(at' fb j).1,(at' fb j).2⟩:=by unfold rL;rw [iA hj]
     rw [r9 (by omega),cond_true,av ⟨by rw [nN];omega,by simp only [List.length_singleton];omega,by simp only [List.length_singleton];omega⟩,av (by rw [nN];omega),e1]
    have e:(at' fb j).1=(((at' fb j).1.toNat:Nat):Int):=by omega
    obtain⟨m,hm1,hm2⟩:=ih (at' fb j).1.toNat (out++[(at' fb j).2]) (by omega) (by omega) (by simp only [List.length_append,List.length_singleton];omega)
    refine⟨m+1,by omega, ?_⟩
    rw [aD,hb]
    simp only
    rw [e,hm2]
    conv=>rhs;rw [om]
    rw [if_neg c,Int.toNat_natCast,List.reverse_append,←e]
    simp
 obtain⟨m,hm1,hm2⟩:=run (j+1) j [] hj (by omega) (by simp;omega)
 unfold bY
 rw [dO hm2 (by unfold FUEL;omega)]
 simp only [List.nil_append,Option.bind_some]
 have hpl:=Bq fb (j+1) (j:Int)
 rw [MG _ (by rw [List.length_reverse];omega),Option.bind_some,av (by simp),List.reverse_reverse]
 rfl
def pL (fb:List (Int × af)):List (List af):=tab fb.length (path fb)
theorem VE {p:aj} {most:Int} {ls:List State} {fb:List (Int × af)} (h:Rc p most ls fb) {i:Nat} (hi:i<fb.length) (x:af):pL fb++[path fb i++[x]]=pL (fb++[((i:Int),x)]):=by
 apply lM (by simp [pL,bD])
 intro j hj
 unfold pL at hj ⊢
 rw [List.length_append,List.length_singleton,bD]at hj
 rw [iA (by rw [List.length_append,List.length_singleton];exact hj)]
 by_cases e:j<fb.length
 ·rw [rQ (by rw [bD];exact e),iA e,KH h e]
 ·have e2:j=fb.length:=by omega
  have:=xC (tab fb.length (path fb)) (path fb i++[x])
  rw [bD]at this
  rw [e2,this,Ca h hi]
abbrev FR:=List af × List State × Int
def UR (o:Option (Ex (List State × List (List af)) (bn (List State × List (List af) × Int) (Ex (List State) FR)))):Out→Prop
 | .go ls fb=>o=some (.brk (ls,pL fb))
 | .large=>o=some (.ret (.done (.ret ([],[],8))))
 | .found ls fb=>o=some (.ret (.done (.ret (path fb (ls.length - 1),[],0))))
def VD (o:Option (Ex (List State) FR)):Out→Prop
 | .go ls fb=>o=some (.brk ls)
 | .large=>o=some (.ret ([],[],8))
 | .found ls fb=>o=some (.ret (path fb (ls.length - 1),[],0))
section
variable {p:aj} (hp:VP p) {t:Task} (ht:kD p t=true) (hst:iy t) {most:Int} (hm:1≤most∧most≤20000)
include hp ht hst hm
theorem Jt (i:Nat): ∀(n k:Nat) (ls:List State) (fb:List (Int × af)),Rc p most ls fb→i<ls.length→k+n=t.allowed.length→
  ∃m,m≤n+1∧UR (aA (gK p t most (i:Int)) m (ls,pL fb,(k:Int))) (Io p t most (at' ls i) i n k ls fb)
 |0,k,ls,fb,h,hi,hkn=>by
  refine⟨1,by omega, ?_⟩
  show _=_
  have:decide ((k:Int)<(t.allowed.length:Int))=false:=decide_eq_false (by omega)
  rw [aD]
  unfold gK
  simp only [this,cond_false]
 |n+1,k,ls,fb,h,hi,hkn=>by
  obtain⟨_,_,⟨al,ax⟩,⟨gl,gx⟩⟩:=dG ht
  have hll:=h.most;have hlen:=h.len
  have hn:VS p (at' ls i):=h.vs _ (at_mem hi)
  have hroom: ∀x∈ls,Lm x:=fun x hx=>VS.room hp (h.vs x hx)
  have hpl:(path fb i).length≤20001:=by have:=Bq fb (i+1) (i:Int);unfold path;omega
  have hpi:at' (pL fb) i=path fb i:=by unfold pL;rw [iA (by omega)]
  have hpn:(pL fb).length=fb.length:=bD _ _
  obtain⟨ri,ri1,ri2⟩:=FB (l:=ls) (by omega) hroom (nextR p (at' ls i) t (at' t.allowed k)).1
  have hb:gK p t most (i:Int) (ls,pL fb,(k:Int))=
    (if(nextR p (at' ls i) t (at' t.allowed k)).2≠0 then some (.next (ls,pL fb,((k+1:Nat):Int)))else
     if(nextR p (at' ls i) t (at' t.allowed k)).1∈ls then some (.next (ls,pL fb,((k+1:Nat):Int)))else
     if most<((ls++[(nextR p (at' ls i) t (at' t.allowed k)).1]).length:Int)then some (.done (.ret (.done (.ret ([],[],8)))))else
     if pW (nextR p (at' ls i) t (at' t.allowed k)).1 t.goal=true then some (.done (.ret (.done (.ret (path fb i++[at' t.allowed k],[],0)))))else
     some (.next (ls++[(nextR p (at' ls i) t (at' t.allowed k)).1],pL fb++[path fb i++[at' t.allowed k]],((k+1:Nat):Int)))):=by
   unfold gK
   simp only [Int.toNat_natCast]
   rw [r9 (by omega),cond_true,Bg hp hn,Option.bind_some,av ⟨by omega,by omega⟩,wr (by omega)]
   by_cases h0:Gv p (at' ls i) (at' t.allowed k)=0
   ·have e:F5 p (at' ls i) (at' t.allowed k)=(mQ (at' ls i) (at' t.allowed k),0):=by unfold F5;rw [if_pos h0]
    have en:nextR p (at' ls i) t (at' t.allowed k)=(mQ (at' ls i) (at' t.allowed k),rU p (mQ (at' ls i) (at' t.allowed k)) t):=by unfold nextR;rw [if_pos h0]
    have ha:=VS.Yc hp hn (vW h0).1
    rw [en]at ri1 ri2
    rw [e,en]
    simp only at ri1 ri2 ⊢
    simp only [decide_true,Bool.not_true,gB,Bool.and_true,show(false==false)=true from rfl,cond_true,cond_false]
    rw [jO (VP.small hp) _ hst,wO hp ha ht,Option.bind_some]
    by_cases h2:rU p (mQ (at' ls i) (at' t.allowed k)) t=0
    ·rw [if_neg (by simp [h2]),h2]
     simp only [decide_true,Bool.not_true,gB,Bool.and_true,show(false==false)=true from rfl,cond_true,cond_false]
     rw [ri1,Option.bind_some]
     by_cases h3:mQ (at' ls i) (at' t.allowed k)∈ls
     ·rw [if_pos h3,decide_eq_true (ri2.2 h3),cond_true];rfl
     ·rw [if_neg h3,decide_eq_false (fun q=>h3 (ri2.1 q)),cond_false]
      have hcs:gI (at' (pL fb) i)=some (path fb i):=by
       rw [hpi];unfold gI;rw [av (by omega)]
      rw [av ⟨by simp only [List.length_singleton];omega,by simp only [List.length_singleton];omega⟩,hcs,Option.bind_some]
      rw [av ⟨by rw [hpn];omega,by omega,by simp only [List.length_singleton];omega,by simp only [List.length_singleton];omega⟩]
      rw [av ⟨by simp only [List.length_singleton,hpn];omega,by simp only [List.length_singleton,hpn];omega⟩]
      by_cases h4:most<((ls++[mQ (at' ls i) (at' t.allowed k)]).length:Int)
      ·rw [if_pos h4,decide_eq_true h4,cond_true]
      ·rw [if_neg h4,decide_eq_false h4,cond_false,Cu ha (by omega) gx,Option.bind_some]
       cases pW (mQ (at' ls i) (at' t.allowed k)) t.goal with
       |true=>rw [if_pos rfl,cond_true]
       |false=>rw [if_neg (by simp),cond_false];rfl
    ·rw [if_pos (by simpa using h2)]
     simp only [decide_eq_false h2,Bool.not_false,gB,Bool.and_true,show(true==false)=false from rfl,cond_true,cond_false,Option.bind_some]
     rfl
   ·have e:F5 p (at' ls i) (at' t.allowed k)=(fM,Gv p (at' ls i) (at' t.allowed k)):=by unfold F5;rw [if_neg h0]
    have en:nextR p (at' ls i) t (at' t.allowed k)=(fM,Gv p (at' ls i) (at' t.allowed k)):=by unfold nextR;rw [if_neg h0]
    rw [e,en]
    simp only
    rw [if_pos (by simpa using h0)]
    simp only [decide_eq_false h0,Bool.not_false,gB,Bool.and_true,show(true==false)=false from rfl,cond_true,cond_false,Option.bind_some]
    rfl
  unfold Io
  split
  ·rename_i h1
   rw [if_pos h1]at hb
   obtain⟨m,hm1,hm2⟩:=Jt i n (k+1) ls fb h hi (by omega)
   refine⟨m+1,by omega, ?_⟩
   rw [aD,hb];exact hm2
  ·rename_i h1
   rw [if_neg h1]at hb
   have hv:=nA hp hn (Decidable.not_not.1 h1)
   have hvs:VS p (nextR p (at' ls i) t (at' t.allowed k)).1:=by rw [hv.2.1];exact hv.2.2.1
   split
   ·rename_i h2
    rw [if_pos h2]at hb
    obtain⟨m,hm1,hm2⟩:=Jt i n (k+1) ls fb h hi (by omega)
    refine⟨m+1,by omega, ?_⟩
    rw [aD,hb];exact hm2
   ·rename_i h2
    rw [if_neg h2]at hb
    split
    ·rename_i h3
     rw [if_pos h3]at hb
     exact⟨1,by omega,by show _=_;rw [aD,hb]⟩
    ·rename_i h3
     rw [if_neg h3]at hb
     have hr:=h.add hvs hi (x:=at' t.allowed k) (by omega)
     split
     ·rename_i h4
      rw [if_pos h4]at hb
      refine⟨1,by omega, ?_⟩
      show _=_
      rw [aD,hb]
      have e1:(ls++[(nextR p (at' ls i) t (at' t.allowed k)).1]).length - 1=fb.length:=by rw [List.length_append,List.length_singleton];omega
      rw [e1,Ca h (by omega)]
     ·rename_i h4
      rw [if_neg h4]at hb
      have hat:at' (ls++[(nextR p (at' ls i) t (at' t.allowed k)).1]) i=at' ls i:=rQ hi
      obtain⟨m,hm1,hm2⟩:=Jt i n (k+1) _ _ hr (by rw [List.length_append,List.length_singleton];omega) (by omega)
      rw [hat]at hm2
      refine⟨m+1,by omega, ?_⟩
      rw [aD,hb]
      simp only
      rw [VE h (by omega)]
      exact hm2
theorem QE: ∀(F i:Nat) (ls:List State) (fb:List (Int × af)),Rc p most ls fb→i≤ls.length→most<(i:Int)+(F:Int)→
  ∃m,m≤F+1∧VD (aA (fF p t most) m (ls,pL fb,(i:Int))) (Lj p t most F i ls fb)
 |0,i,ls,fb,h,hi,hF=>by have:=h.most;omega
 |F+1,i,ls,fb,h,hi,hF=>by
  have hll:=h.most
  by_cases hlt:i<ls.length
  ·obtain⟨m0,hm0,hres⟩:=Jt hp ht hst hm i t.allowed.length 0 ls fb h hlt (by omega)
   have hal:=(dG ht).2.2.1.1
   have hok:=Cz hp ht hm (h.vs _ (at_mem hlt)) i t.allowed.length 0 ls fb h hlt
   have hE: ∀o,aA (gK p t most (i:Int)) m0 (ls,pL fb,((0:Nat):Int))=some o→aA (gK p t most (i:Int)) FUEL (ls,pL fb,0)=some o:=fun o ho=>dO ho (by unfold FUEL;omega)
   unfold Lj
   rw [if_pos hlt]
   revert hres hok
   cases Io p t most (at' ls i) i t.allowed.length 0 ls fb with
   |go ls' fb'=>
    intro ho hok
    obtain⟨m,hm1,hm2⟩:=QE F (i+1) ls' fb' hok.1 (by have:=hok.2;omega) (by omega)
    refine⟨m+1,by omega, ?_⟩
    rw [aD]
    unfold fF
    simp only
    rw [r9 (by omega),cond_true,hE _ ho,Option.bind_some,wr (by omega)]
    exact hm2
   |large=>
    intro ho _
    refine⟨1,by omega, ?_⟩
    show _=_
    rw [aD]
    unfold fF
    simp only
    rw [r9 (by omega),cond_true,hE _ ho,Option.bind_some]
   |found ls' fb'=>
    intro ho _
    refine⟨1,by omega, ?_⟩
    show _=_
    rw [aD]
    unfold fF
    simp only
    rw [r9 (by omega),cond_true,hE _ ho,Option.bind_some]
  ·refine⟨1,by omega, ?_⟩
   unfold Lj
   rw [if_neg hlt]
   show _=_
   have:decide ((i:Int)<(ls.length:Int))=false:=decide_eq_false (by omega)
   rw [aD]
   unfold fF
   simp only [this,cond_false]
end
noncomputable def jP (p:aj) (s:State) (t:Task) (most:Int):FR:=
 if nT p s t≠0 then([],[],nT p s t)else if most<1∨20000<most then([],[],1)else if pW s t.goal=true then([],[],0)else
  match Lj p t most 20002 0 [s] [(-1,⟨0,0⟩)]with
  | .go ls _=>([],ls,4)
  | .large=>([],[],8)
  | .found ls fb=>(path fb (ls.length - 1),[],0)
theorem EL {p:aj} (hp:Small p) (s:State) {t:Task} (hst:iy t) (most:Int):rM p s t most=some (jP p s t most):=by
 unfold rM jP
 rw [jO hp s hst,Option.bind_some]
 by_cases h:nT p s t=0
 ·obtain⟨h1,h2,h3,h4⟩:=jG h
  rw [if_neg (by simp [h]),h]
  simp only [decide_true,Bool.not_true,cond_false]
  by_cases hmm:most<1∨20000<most
  ·rw [if_pos hmm,eH]
   have:(decide (most<1)||decide (20000<most))=true:=by
    rw [Bool.or_eq_true,decide_eq_true_iff,decide_eq_true_iff];exact hmm
   rw [this];rfl
  ·rw [if_neg hmm,eH]
   have:(decide (most<1)||decide (20000<most))=false:=by
    rw [Bool.or_eq_false_iff,decide_eq_false_iff_not,decide_eq_false_iff_not];exact⟨fun q=>hmm (.inl q),fun q=>hmm (.inr q)⟩
   rw [this,cond_false]
   obtain⟨_,_,_,⟨gl,gx⟩⟩:=dG h3
   rw [Cu h2 (by omega) gx,Option.bind_some]
   cases pW s t.goal with
   |true=>rw [if_pos rfl];rfl
   |false=>
    rw [if_neg (by simp),cond_false]
    have hm:1≤most∧most≤20000:=by omega
    obtain⟨m,hm1,hm2⟩:=QE h1 h3 hst hm 20002 0 [s] [(-1,⟨0,0⟩)] (Ed h2 hm _) (by simp) (by omega)
    have e:pL [((-1:Int),(⟨0,0⟩:af))]=[([]:List af)]:=by
     simp [pL,tab,path,om]
    rw [e]at hm2
    revert hm2
    cases Lj p t most 20002 0 [s] [(-1,⟨0,0⟩)]with
    |go ls fb=>intro ho;rw [show(0:Int)=((0:Nat):Int)from rfl,dO ho (by unfold FUEL;omega)];rfl
    |large=>intro ho;rw [show aA (fF p t most) FUEL ([s],[[]],0)=_ from dO ho (by unfold FUEL;omega)];rfl
    |found ls fb=>intro ho;rw [show aA (fF p t most) FUEL ([s],[[]],0)=_ from dO ho (by unfold FUEL;omega)];rfl
 ·rw [if_pos h];simp [h]
theorem NZ (ls:List State) (fb:List (Int × af)) (kn:List (List Bool × Bool)) (hl:ls.length≤100000):bZ [] ⟨rL ls fb,kn⟩=some ls:=by
 have key:aA (cK ⟨rL ls fb,kn⟩) FUEL (ls.take 0,((0:Nat):Int))=some (.brk (ls.take ls.length)):=by
  refine dL (body:=cK ⟨rL ls fb,kn⟩) (fun i=>(ls.take i,(i:Int))) ls.length _ (fuel_lt (by omega)) (fun i hi=> ?_) ?_
  ·have e1:(at' (rL ls fb) i).s_=at' ls i:=by unfold rL;rw [iA hi]
   unfold cK oN
   simp only [Int.toNat_natCast,e1]
   rw [r9 (by rw [nN];omega),cond_true,av ⟨by simp only [List.length_take,List.length_singleton];omega,by simp only [List.length_take,List.length_singleton];omega⟩,Option.bind_some,av (by rw [nN];omega),wr (by omega),mg hi]
   rfl
  ·unfold cK
   have:decide ((ls.length:Int)<((rL ls fb).length:Int))=false:=decide_eq_false (by rw [nN];omega)
   simp only [this,cond_false]
 rw [List.take_length]at key
 unfold bZ
 rw [show aA (cK ⟨rL ls fb,kn⟩) FUEL ([],0)=_ from key];rfl
theorem IL {p:aj} (hp:Small p) (s:State) {t:Task} (hst:iy t) (most:Int):fB p s t most=some (jP p s t most):=by
 unfold fB jP
 rw [qH hp s hst,Option.bind_some]
 by_cases h:nT p s t=0
 ·obtain⟨h1,h2,h3,h4⟩:=jG h
  rw [if_neg (by simp [h]),h]
  simp only [decide_true,Bool.not_true,cond_false]
  by_cases hmm:most<1∨20000<most
  ·rw [if_pos hmm,eH]
   have:(decide (most<1)||decide (20000<most))=true:=by
    rw [Bool.or_eq_true,decide_eq_true_iff,decide_eq_true_iff];exact hmm
   rw [this];rfl
  ·rw [if_neg hmm,eH]
   have:(decide (most<1)||decide (20000<most))=false:=by
    rw [Bool.or_eq_false_iff,decide_eq_false_iff_not,decide_eq_false_iff_not];exact⟨fun q=>hmm (.inl q),fun q=>hmm (.inr q)⟩
   rw [this,cond_false]
   obtain⟨_,_,⟨al,_⟩,⟨gl,gx⟩⟩:=dG h3
   have hm:1≤most∧most≤20000:=by omega
   have hadd:=add_eq (ls:=[]) (x:=⟨[],[]⟩) Kn.nil h2 (-1) ⟨0,0⟩ (by simp)
   rw [Hy s (VS.small h1 h2),Option.bind_some,hadd]
   simp only [List.not_mem_nil,decide_false,cond_false,Option.bind_some]
   rw [Ig h2 (by omega) gx,Option.bind_some]
   have e0:([]:List Reached)++[(⟨s, -1,⟨0,0⟩⟩:Reached)]=rL [s] [(-1,⟨0,0⟩)]:=by simp [rL,tab,at']
   have hkn:Kn p [s] (fE (sj 280) (qf s) true []):=by have:=(Kn.nil (p:=p)).add h1 h2;simpa using this
   rw [e0]
   generalize hk0:fE (sj 280) (qf s) true ([]:List (List Bool × Bool))=k0 at hkn
   have hrc:=Ed h2 hm (⟨0,0⟩:af)
   cases hmet:pW s t.goal with
   |true=>
    rw [if_pos rfl]
    simp only [cond_true,di,Option.bind_some]
    have hz:bR p t most [] [] 0 0 ⟨rL [s] [(-1,⟨0,0⟩)],k0⟩=some (if t.allowed=[]then(0,[],[],0,0,⟨rL [s] [(-1,⟨0,0⟩)],k0⟩)else(2,[],[],0,0,⟨rL [s] [(-1,⟨0,0⟩)],k0⟩)):=by
     unfold bR
     obtain⟨k,hk⟩: ∃k,FUEL=k+1+1:=⟨1180591620717411303422,rfl⟩
     rw [hk,aD]
     have hs0:(at' (rL [s] [(-1,⟨0,0⟩)]) 0).s_=s:=rfl
     have b0:aX p t most ([],[],0,rL [s] [(-1,⟨0,0⟩)],k0,0,0)=some (if t.allowed=[]then .next ([],[],0,rL [s] [(-1,⟨0,0⟩)],k0,0,1)else .done (.ret (2,[],[],0,0,⟨rL [s] [(-1,⟨0,0⟩)],k0⟩))):=by
      unfold aX
      simp only
      have hll:((rL [s] [((-1:Int),(⟨0,0⟩:af))]).length:Int)=1:=rfl
      rw [hll,show decide ((0:Int)<1)=true from rfl,cond_true,show((0:Int)).toNat=0 from rfl,hs0,Ey (now:=s) h1 h3 hm 0 (Int.le_refl 0)]
      by_cases ha:t.allowed=[]
      ·rw [if_pos ha,if_pos ha];rfl
      ·rw [if_neg ha,if_neg ha];rfl
     rw [b0]
     by_cases ha:t.allowed=[]
     ·rw [if_pos ha,if_pos ha]
      simp only
      rw [aD]
      rfl
     ·rw [if_neg ha,if_neg ha];rfl
    rw [hz,Option.bind_some]
    have hpr:=Ej hrc hm.2 (j:=0) (by simp) k0
    have hpth:path [((-1:Int),(⟨0,0⟩:af))] 0=[]:=by simp [path,om]
    rw [hpth]at hpr
    have hpr':bY 0 ⟨rL [s] [(-1,⟨0,0⟩)],k0⟩=some []:=hpr
    by_cases ha:t.allowed=[]
    ·rw [if_pos ha]
     simp only [show Nat.beq 0 0=true from rfl,cond_true,show decide ((0:Int)≤0)=true from rfl]
     rw [hpr'];rfl
    ·rw [if_neg ha]
     simp only [show Nat.beq 2 0=false from rfl,show Nat.beq 2 2=true from rfl,cond_true,cond_false,show decide ((0:Int)≤0)=true from rfl]
     rw [hpr'];rfl
   |false=>
    rw [if_neg (by simp)]
    simp only [cond_false,di,Option.bind_some]
    obtain⟨m,hm1,hm2⟩:=Nu h1 h3 hm 20002 0 [s] [(-1,⟨0,0⟩)] k0 hrc (by simp) hkn (by omega)
    have hok:=Pt h1 h3 hm 20002 0 [s] [(-1,⟨0,0⟩)] hrc
    have hE: ∀o,aA (aX p t most) m ([],[],0,rL [s] [(-1,⟨0,0⟩)],k0, -1,((0:Nat):Int))=some o→aA (aX p t most) FUEL ([],[],0,rL [s] [(-1,⟨0,0⟩)],k0, -1,0)=some o:=fun o ho=>dO ho (by unfold FUEL;omega)
    revert hm2 hok
    cases Lj p t most 20002 0 [s] [(-1,⟨0,0⟩)]with
    |go ls fb=>
     rintro ⟨kn,ho⟩ hok
     have hll:=hok.1.most
     unfold bR
     rw [hE _ ho]
     simp only [Option.bind_some,show Nat.beq 0 0=true from rfl,cond_true,show decide ((0:Int)≤ -1)=false from rfl,cond_false]
     rw [NZ ls fb kn (by omega)];rfl
    |large=>
     rintro ⟨f,x,ho⟩ _
     unfold bR
     rw [hE _ ho]
     simp only [Option.bind_some,show Nat.beq 3 0=false from rfl,show Nat.beq 3 2=false from rfl,cond_false]
     rfl
    |found ls fb=>
     rintro ⟨kn,ho⟩ hok
     have hpos:=hok.1.pos
     unfold bR
     rw [hE _ ho]
     simp only [Option.bind_some,show Nat.beq 2 0=false from rfl,show Nat.beq 2 2=true from rfl,cond_false,cond_true]
     rw [decide_eq_true (show(0:Int)≤(ls.length:Int) - 1 by omega),cond_true]
     have hpr:=Ej hok.1 hm.2 (j:=ls.length - 1) (by omega) kn
     rw [show((ls.length - 1:Nat):Int)=(ls.length:Int) - 1 by omega]at hpr
     rw [hpr];rfl
 ·rw [if_pos h];simp [h]
noncomputable def wK (p:aj) (t:Task) (y:State):Bool:= !decide (nT p y t=0)||pW y t.goal
noncomputable def sN (p:aj) (t:Task) (l:List State) (y:State) (x:af):Bool:=decide ((nextR p y t x).2=0) && !decide ((nextR p y t x).1∈l)
noncomputable def uJ (p:aj) (s:State) (t:Task) (l:List State):Int:=
 if nT p s t≠0 then nT p s t else if 20000<l.length then 2 else bif l.any (wK p t)then 7 else bif !decide (s∈l)then 7 else bif l.any (fun y=>t.allowed.any (sN p t l y))then 7 else 0
theorem Er {p:aj} {t:Task} {y:State} (h:wK p t y=false):nT p y t=0∧pW y t.goal=false:=by
 unfold wK at h
 rw [Bool.or_eq_false_iff,Bool.not_eq_false',decide_eq_true_iff]at h
 exact h
section
variable {p:aj} (hp:VP p) {t:Task} (ht:kD p t=true) (hst:iy t) {l:List State} (hl:l.length≤20000)
include hp ht hst hl
theorem Ud: ∀(n i:Nat) (x:Search),i+n=l.length→x.l.length≤i→Kn p (l.take i) x.known→
  ∃m,m≤n+1∧(((l.drop i).any (wK p t)=true∧aA (dw p t l) m (x.l,x.known,(i:Int))=some (.ret 7))∨
   ((l.drop i).any (wK p t)=false∧ ∃x':Search,Kn p l x'.known∧aA (dw p t l) m (x.l,x.known,(i:Int))=some (.brk (x'.l,x'.known))))
 |0,i,x,hi,hx,hk=>by
  refine⟨1,by omega, .inr ⟨?_,x, ?_, ?_⟩⟩
  ·rw [List.drop_eq_nil_of_le (by omega)];rfl
  ·rw [List.take_of_length_le (by omega)]at hk;exact hk
  ·have:decide ((i:Int)<(l.length:Int))=false:=decide_eq_false (by omega)
   rw [aD]
   unfold dw
   simp only [this,cond_false]
 |n+1,i,x,hi,hx,hk=>by
  have hlt:i<l.length:=by omega
  obtain⟨_,_,_,⟨gl,gx⟩⟩:=dG ht
  have hdrop:(l.drop i).any (wK p t)=(wK p t (at' l i)||(l.drop (i+1)).any (wK p t)):=by
   rw [List.drop_eq_getElem_cons hlt,List.any_cons,dH hlt]
  have htk:l.take (i+1)=l.take i++[at' l i]:=mg hlt
  by_cases h0:nT p (at' l i) t=0
  ·obtain⟨_,hv,_,_⟩:=jG h0
   cases hm:pW (at' l i) t.goal with
   |true=>
    refine⟨1,by omega, .inl ⟨?_, ?_⟩⟩
    ·rw [hdrop];unfold wK;rw [hm];simp
    ·rw [aD]
     unfold dw
     simp only [Int.toNat_natCast]
     rw [r9 (by omega),cond_true,av (by omega),qH (VP.small hp) _ hst,h0,Option.bind_some]
     simp only [decide_true,Bool.not_true,gB,Bool.and_true,show(false==false)=true from rfl,cond_true,cond_false]
     rw [Ig hv (by omega) gx,hm]
     rfl
   |false=>
    have hb:wK p t (at' l i)=false:=by unfold wK;rw [hm,h0];simp
    have hadd:=add_eq (x:=x) hk hv (-1) ⟨0,0⟩ (by omega)
    obtain⟨x2,hx2,hx2l,hk2⟩: ∃x2:Search,dR (at' l i) (-1) ⟨0,0⟩ x=some (!decide (at' l i∈l.take i),x2)∧x2.l.length≤i+1∧Kn p (l.take (i+1)) x2.known:=by
     by_cases hin:at' l i∈l.take i
     ·refine⟨x, ?_,by omega, ?_⟩
      ·rw [hadd,decide_eq_true hin];rfl
      ·intro u hu
       rw [hk u hu,htk,List.mem_append,List.mem_singleton]
       exact⟨fun q=> .inl q,fun q=>q.elim id fun e=>e ▸ hin⟩
     ·refine⟨⟨x.l++[⟨at' l i, -1,⟨0,0⟩⟩],fE (sj 280) (qf (at' l i)) true x.known⟩, ?_, ?_, ?_⟩
      ·rw [hadd,decide_eq_false hin];rfl
      ·simp;omega
      ·rw [htk];exact hk.add hp hv
    obtain⟨m,hm1,hm2⟩:=Ud n (i+1) x2 (by omega) hx2l hk2
    have hstep:dw p t l (x.l,x.known,(i:Int))=some (.next (x2.l,x2.known,((i+1:Nat):Int))):=by
     unfold dw
     simp only [Int.toNat_natCast]
     rw [r9 (by omega),cond_true,av (by omega),qH (VP.small hp) _ hst,h0,Option.bind_some]
     simp only [decide_true,Bool.not_true,gB,Bool.and_true,show(false==false)=true from rfl,cond_true,cond_false]
     rw [Ig hv (by omega) gx,hm,Option.bind_some,cond_false,show(⟨x.l,x.known⟩:Search)=x from rfl,hx2,Option.bind_some,wr (by omega)]
     rfl
    refine⟨m+1,by omega, ?_⟩
    rw [aD,hstep,hdrop,hb,Bool.false_or]
    exact hm2
  ·refine⟨1,by omega, .inl ⟨?_, ?_⟩⟩
   ·rw [hdrop];unfold wK;rw [decide_eq_false h0];simp
   ·rw [aD]
    unfold dw
    simp only [Int.toNat_natCast]
    rw [r9 (by omega),cond_true,av (by omega),qH (VP.small hp) _ hst,Option.bind_some]
    simp only [decide_eq_false h0,Bool.not_false,gB,Bool.and_true,show(true==false)=false from rfl,cond_true,cond_false,Option.bind_some]
theorem Yr {kn:List (List Bool × Bool)} (hk:Kn p l kn) (hv: ∀y∈l,VS p y):aA (lI p t l kn) FUEL 0=some (bif l.any (fun y=>t.allowed.any (sN p t l y))then .ret 7 else .brk ()):=by
 obtain⟨_,_,⟨al,ax⟩,_⟩:=dG ht
 rw [←iO l fun y=>t.allowed.any (sN p t l y)]
 refine bT l.length (fun i=>t.allowed.any (sN p t l (at' l i))) 7 (by omega) (fun i hi=> ?_) (by unfold lI;simp)
 have hvi:=hv _ (at_mem hi)
 have e2:aA (kW p t l kn (i:Int)) FUEL 0=some (bif t.allowed.any (sN p t l (at' l i))then .ret (.done (.ret 7))else .brk ()):=by
  rw [←iO t.allowed (sN p t l (at' l i))]
  refine bT t.allowed.length (fun k=>sN p t l (at' l i) (at' t.allowed k)) (bn.done (Ex.ret (7:Int)):bn Int (Ex Unit Int)) (by omega) (fun k hk'=> ?_) (by unfold kW;simp)
  unfold kW sN
  simp only [Int.toNat_natCast]
  rw [r9 (by omega),cond_true,av (by omega),Iy hp hvi ht,Option.bind_some,wr (by omega)]
  by_cases h0:(nextR p (at' l i) t (at' t.allowed k)).2=0
  ·have hn:=nA hp hvi h0
   have hvn:VS p (nextR p (at' l i) t (at' t.allowed k)).1:=by rw [hn.2.1];exact hn.2.2.1
   rw [h0]
   simp only [decide_true,gB,Bool.and_true,beq_self_eq_true,cond_true,Bool.true_and]
   rw [Fj,Option.bind_some,hk.has hvn]
   exact dX _ _ _
  ·simp only [decide_eq_false h0,gB,Bool.and_true,show(false==true)=false from rfl,cond_false,Option.bind_some,Bool.false_and]
 unfold lI
 rw [r9 (by omega),cond_true,av (by omega),e2,wr (by omega)]
 cases t.allowed.any (sN p t l (at' l i))<;>rfl
theorem Vy (hv: ∀y∈l,VS p y):aA (lD p t l) FUEL 0=some (bif l.any (fun y=>t.allowed.any (sN p t l y))then .ret 7 else .brk ()):=by
 obtain⟨_,_,⟨al,ax⟩,_⟩:=dG ht
 have hroom: ∀x∈l,Lm x:=fun x hx=>VS.room hp (hv x hx)
 rw [←iO l fun y=>t.allowed.any (sN p t l y)]
 refine bT l.length (fun i=>t.allowed.any (sN p t l (at' l i))) 7 (by omega) (fun i hi=> ?_) (by unfold lD;simp)
 have hvi:=hv _ (at_mem hi)
 have e2:aA (lJ p t l (i:Int)) FUEL 0=some (bif t.allowed.any (sN p t l (at' l i))then .ret (.done (.ret 7))else .brk ()):=by
  rw [←iO t.allowed (sN p t l (at' l i))]
  refine bT t.allowed.length (fun k=>sN p t l (at' l i) (at' t.allowed k)) (bn.done (Ex.ret (7:Int)):bn Int (Ex Unit Int)) (by omega) (fun k hk'=> ?_) (by unfold lJ;simp)
  unfold lJ sN
  simp only [Int.toNat_natCast]
  rw [r9 (by omega),cond_true,Bg hp hvi,Option.bind_some,av ⟨by omega,by omega⟩,wr (by omega)]
  by_cases h0:Gv p (at' l i) (at' t.allowed k)=0
  ·have e:F5 p (at' l i) (at' t.allowed k)=(mQ (at' l i) (at' t.allowed k),0):=by unfold F5;rw [if_pos h0]
   have en:nextR p (at' l i) t (at' t.allowed k)=(mQ (at' l i) (at' t.allowed k),rU p (mQ (at' l i) (at' t.allowed k)) t):=by unfold nextR;rw [if_pos h0]
   have ha:=VS.Yc hp hvi (vW h0).1
   rw [e,en]
   simp only [decide_true,gB,Bool.and_true,beq_self_eq_true,cond_true]
   rw [jO (VP.small hp) _ hst,wO hp ha ht,Option.bind_some]
   obtain⟨ri,ri1,ri2⟩:=FB (l:=l) (by omega) hroom (mQ (at' l i) (at' t.allowed k))
   by_cases h2:rU p (mQ (at' l i) (at' t.allowed k)) t=0
   ·simp only [h2,decide_true,cond_true,beq_self_eq_true,Bool.true_and]
    rw [ri1,Option.bind_some]
    have:decide (ri<0)= !decide (mQ (at' l i) (at' t.allowed k)∈l):=by
     rw [Bool.eq_iff_iff,decide_eq_true_iff,Bool.not_eq_true',decide_eq_false_iff_not,←ri2];omega
    rw [this]
    exact dX _ _ _
   ·simp only [decide_eq_false h2,cond_false,show(false==true)=false from rfl,Option.bind_some,Bool.false_and]
  ·have e:F5 p (at' l i) (at' t.allowed k)=(fM,Gv p (at' l i) (at' t.allowed k)):=by unfold F5;rw [if_neg h0]
   have en:nextR p (at' l i) t (at' t.allowed k)=(fM,Gv p (at' l i) (at' t.allowed k)):=by unfold nextR;rw [if_neg h0]
   rw [e,en]
   simp only [decide_eq_false h0,gB,Bool.and_true,show(false==true)=false from rfl,cond_false,Option.bind_some,Bool.false_and]
 unfold lD
 rw [r9 (by omega),cond_true,e2,wr (by omega)]
 cases t.allowed.any (sN p t l (at' l i))<;>rfl
theorem Vw:aA (lG p t l) FUEL 0=some (bif l.any (wK p t)then .ret 7 else .brk ()):=by
 obtain⟨_,_,_,⟨gl,gx⟩⟩:=dG ht
 rw [←iO l (wK p t)]
 refine bT l.length (fun i=>wK p t (at' l i)) 7 (by omega) (fun i hi=> ?_) (by unfold lG;simp)
 unfold lG
 simp only [Int.toNat_natCast]
 rw [r9 (by omega),cond_true,jO (VP.small hp) _ hst,Option.bind_some,wr (by omega)]
 unfold wK
 by_cases h0:nT p (at' l i) t=0
 ·obtain⟨_,hv,_,_⟩:=jG h0
  simp only [h0,decide_true,Bool.not_true,gB,Bool.and_true,show(false==false)=true from rfl,cond_true,cond_false,Bool.false_or]
  rw [Cu hv (by omega) gx,Option.bind_some,av ⟨by omega,fun _=>by omega⟩]
  exact dX _ _ _
 ·simp only [decide_eq_false h0,Bool.not_false,gB,Bool.and_true,show(true==false)=false from rfl,cond_false,cond_true,Option.bind_some,Bool.true_or]
  rw [av ⟨by omega,fun _=>by omega⟩]
end
theorem CB {p:aj} (hp:Small p) (s:State) {t:Task} (hst:iy t) (l:List State):fo p s t l=some (uJ p s t l):=by
 unfold fo uJ
 rw [qH hp s hst,Option.bind_some]
 by_cases h:nT p s t=0
 ·obtain⟨h1,h2,h3,h4⟩:=jG h
  rw [if_neg (by simp [h]),h]
  simp only [decide_true,Bool.not_true,cond_false]
  by_cases hl:20000<l.length
  ·rw [if_pos hl,decide_eq_true (show(20000:Int)<(l.length:Int) by omega),cond_true]
  ·rw [if_neg hl,decide_eq_false (show ¬ (20000:Int)<(l.length:Int) by omega),cond_false]
   obtain⟨m,hm1,hm2⟩:=Ud h1 h3 hst (l:=l) (by omega) l.length 0 ⟨[],[]⟩ (by omega) (by simp) (by rw [List.take_zero];exact Kn.nil)
   rw [List.drop_zero]at hm2
   rcases hm2 with⟨ha,hr⟩|⟨ha,x',hk,hr⟩
   ·rw [ha,show aA (dw p t l) FUEL ([],[],0)=_ from dO hr (by unfold FUEL;omega)];rfl
   ·rw [ha,show aA (dw p t l) FUEL ([],[],0)=_ from dO hr (by unfold FUEL;omega)]
    simp only [Option.bind_some,cond_false]
    rw [List.any_eq_false]at ha
    have hv: ∀y∈l,VS p y:=fun y hy=>(jG (Er (by simpa using ha y hy)).1).2.1
    rw [Fj,Option.bind_some,hk.has h2]
    cases decide (s∈l)with
    |false=>rfl
    |true=>
     simp only [Bool.not_true,cond_false]
     rw [Yr h1 h3 hst (by omega) hk hv]
     cases l.any (fun y=>t.allowed.any (sN p t l y))<;>rfl
 ·rw [if_pos h];simp [h]
theorem IW {p:aj} (hp:Small p) (s:State) {t:Task} (hst:iy t) (l:List State):sG p s t l=some (uJ p s t l):=by
 unfold sG uJ
 rw [jO hp s hst,Option.bind_some]
 by_cases h:nT p s t=0
 ·obtain⟨h1,h2,h3,h4⟩:=jG h
  rw [if_neg (by simp [h]),h]
  simp only [decide_true,Bool.not_true,cond_false]
  by_cases hl:20000<l.length
  ·rw [if_pos hl,decide_eq_true (show(20000:Int)<(l.length:Int) by omega),cond_true]
  ·rw [if_neg hl,decide_eq_false (show ¬ (20000:Int)<(l.length:Int) by omega),cond_false,Vw h1 h3 hst (by omega)]
   cases ha:l.any (wK p t)with
   |true=>rfl
   |false=>
    simp only [Option.bind_some,cond_false]
    rw [List.any_eq_false]at ha
    have hv: ∀y∈l,VS p y:=fun y hy=>(jG (Er (by simpa using ha y hy)).1).2.1
    obtain⟨ri,ri1,ri2⟩:=FB (l:=l) (by omega) (fun x hx=>VS.room h1 (hv x hx)) s
    rw [ri1,Option.bind_some]
    have:decide (ri<0)= !decide (s∈l):=by
     rw [Bool.eq_iff_iff,decide_eq_true_iff,Bool.not_eq_true',decide_eq_false_iff_not,←ri2];omega
    rw [this]
    cases decide (s∈l)with
    |false=>rfl
    |true=>
     simp only [Bool.not_true,cond_false]
     rw [Vy h1 h3 hst (by omega) hv]
     cases l.any (fun y=>t.allowed.any (sN p t l y))<;>rfl
 ·rw [if_pos h];simp [h]
def DL:aj:=⟨3,[⟨0,1,500,0,20⟩],[⟨0,1,3,400,10,[]⟩,⟨1,2,2,400,10,[]⟩],[⟨⟨2, -1⟩,100,1⟩]⟩
def Ar:State:=⟨[true,true],List.replicate 2 false,List.replicate 2 false,[true],List.replicate 1 false,List.replicate 3 false,List.replicate 3 false⟩
def Zq:Task:=⟨[],[],[⟨1,0⟩,⟨2,0⟩,⟨1,1⟩,⟨2,1⟩],[⟨1,1⟩]⟩
def exU:Task:=⟨[0],[],[⟨1,0⟩,⟨2,0⟩,⟨1,1⟩,⟨2,1⟩],[⟨1,1⟩]⟩
theorem fC:Small DL:=⟨by decide,by decide,by decide,fun x hx=>by
 simp only [DL,List.mem_cons,List.not_mem_nil,or_false]at hx
 rcases hx with rfl|rfl<;>decide⟩
theorem He:iy Zq:=⟨by decide,by decide,by decide,by decide⟩
theorem zh:iy exU:=⟨by decide,by decide,by decide,by decide⟩
theorem WT:qN=some (DL,Ar):=by kernel_rfl
theorem ex1:rM DL Ar Zq 100=some ([⟨1,0⟩,⟨1,1⟩],[],0):=by kernel_rfl
theorem ex2:rM DL Ar exU 100=some ([],[Ar],4):=by kernel_rfl
theorem ex3:sG DL Ar exU [Ar]=some 0:=by kernel_rfl
theorem Zd:fB DL Ar Zq 100=some ([⟨1,0⟩,⟨1,1⟩],[],0):=(IL fC Ar He 100).trans ((EL fC Ar He 100).symm.trans ex1)
theorem Zv:fB DL Ar exU 100=some ([],[Ar],4):=(IL fC Ar zh 100).trans ((EL fC Ar zh 100).symm.trans ex2)
theorem Zl:fo DL Ar exU [Ar]=some 0:=(CB fC Ar zh [Ar]).trans ((IW fC Ar zh [Ar]).symm.trans ex3)
theorem ex4:jS DL Ar ⟨1,1⟩=some (fM,44):=by kernel_rfl
def exR:State:=⟨[false,false],List.replicate 2 false,List.replicate 2 false,[true],List.replicate 1 false,List.replicate 3 false,List.replicate 3 false⟩
def MR:State:=⟨[false,false],[false,true],List.replicate 2 false,[true],List.replicate 1 false,[false,false,true],List.replicate 3 false⟩
theorem ex5:oJ DL Ar ⟨[],[],[],[]⟩ [⟨1,0⟩,⟨1,1⟩]=some (2,exR,0):=by kernel_rfl
theorem ex6:jS DL MR ⟨2,1⟩=some (fM,43):=by kernel_rfl
theorem ex7:oJ DL MR ⟨[],[2],[],[]⟩ [⟨6,1⟩]=some (0,fM,45):=by kernel_rfl
theorem ex8:dF DL MR ⟨[],[2],[],[]⟩=some 0:=by kernel_rfl
theorem ex9:qP [⟨1,0⟩,⟨1,1⟩] [⟨1,0⟩,⟨1,1⟩]=some true:=by kernel_rfl
theorem aaz:bV exR.closed [false,false]=some true:=by kernel_rfl
theorem uQ {α:Type} {c:Bool} {a b:α} (h:c=false):(bif c then a else b)=b:=by rw [h];rfl
theorem zO {α:Type} {c:Bool} {a b:α} (h:c=true):(bif c then a else b)=a:=by rw [h];rfl
theorem Jw:iy ⟨[],[],[],[]⟩:=⟨by decide,by decide,by decide,by decide⟩
theorem BB:iy ⟨[],[2],[],[]⟩:=⟨by decide,by decide,by decide,by decide⟩
theorem aas:j4 DL Ar ⟨1,1⟩=some (fM,44):=(TW fC Ar _).trans ((Ld fC Ar _).symm.trans ex4)
theorem ZC:bW DL Ar ⟨[],[],[],[]⟩ [⟨1,0⟩,⟨1,1⟩]=some (2,exR,0):=(zo fC Ar Jw _).trans ((Bb fC Ar Jw _).symm.trans ex5)
theorem Y6:j4 DL MR ⟨2,1⟩=some (fM,43):=(TW fC MR _).trans ((Ld fC MR _).symm.trans ex6)
theorem ZE:bW DL MR ⟨[],[2],[],[]⟩ [⟨6,1⟩]=some (0,fM,45):=(zo fC MR BB _).trans ((Bb fC MR BB _).symm.trans ex7)
theorem aaE:eG DL MR ⟨[],[2],[],[]⟩=some 0:=(qH fC MR BB).trans ((jO fC MR BB).symm.trans ex8)
theorem nV:eZ=some true:=by
 unfold eZ
 rw [WT,Option.bind_some]
 dsimp only
 rw [show fB DL Ar (⟨([]:List Int),([]:List Int),[(⟨1,0⟩:af),(⟨2,0⟩:af),(⟨1,1⟩:af),(⟨2,1⟩:af)],[(⟨1,1⟩:af)]⟩:Task) 100=_ from Zd,Option.bind_some,aas,Option.bind_some,uQ (by rfl),ex9,Option.bind_some,uQ (by rfl),ZC,Option.bind_some,uQ (by rfl),aaz,Option.bind_some,uQ (by rfl),
  show fB DL Ar (⟨[0],([]:List Int),[(⟨1,0⟩:af),(⟨2,0⟩:af),(⟨1,1⟩:af),(⟨2,1⟩:af)],[(⟨1,1⟩:af)]⟩:Task) 100=_ from Zv,Option.bind_some,uQ (by rfl),
  show fo DL Ar (⟨[0],([]:List Int),[(⟨1,0⟩:af),(⟨2,0⟩:af),(⟨1,1⟩:af),(⟨2,1⟩:af)],[(⟨1,1⟩:af)]⟩:Task) [Ar]=_ from Zl,Option.bind_some,uQ (by rfl),av (by decide)]
 change Option.bind (j4 DL MR ⟨2,1⟩) _=_
 rw [Y6,Option.bind_some]
 change Option.bind (bW DL MR ⟨[],[2],[],[]⟩ [⟨6,1⟩]) _=_
 rw [ZE,Option.bind_some,zO (by rfl)]
 change Option.bind (eG DL MR ⟨[],[2],[],[]⟩) _=_
 rw [aaE,Option.bind_some]
 rfl
def SA (p:aj) (t:Task):Bool:=(bif (bif (bif (bif (bif (bif (decide (60<(p.sources.length:Int)))then true else(decide (60<(p.links.length:Int))))then true else(decide (60<(p.racks.length:Int))))then true else(decide (60<(t.fed.length:Int))))then true else(decide (60<(t.crew.length:Int))))then true else(decide (60<(t.allowed.length:Int))))then true else(decide (60<(t.goal.length:Int))))
theorem Vi (p:aj) (t:Task):yx p t=some (SA p t):=rfl
structure Ir (t:Task):Prop where
 f:t.fed.length≤60
 c:t.crew.length≤60
 a:t.allowed.length≤60
 g:t.goal.length≤60
structure Vj (p:aj):Prop where
 s:p.sources.length≤60
 l:p.links.length≤60
 r:p.racks.length≤60
theorem ML {p:aj} {t:Task} (h:SA p t=false):Vj p∧Ir t:=by
 unfold SA at h
 simp only [eH,Bool.or_eq_false_iff,decide_eq_false_iff_not]at h
 obtain⟨⟨⟨⟨⟨⟨h1,h2⟩,h3⟩,h4⟩,h5⟩,h6⟩,h7⟩:=h
 exact⟨⟨by omega,by omega,by omega⟩,⟨by omega,by omega,by omega,by omega⟩⟩
theorem Ir.small {t:Task} (h:Ir t):iy t:=by
 obtain⟨h1,h2,h3,h4⟩:=h
 exact⟨by omega,by omega,by omega,by omega⟩
end Sg

namespace Sg
open Go Go.ChangeShapes Go.WideShapes Go.RowKit Go.Deep
end Sg

namespace Sg
open Go Go.ChangeShapes Go.WideShapes Go.RowKit Go.Deep
structure Rz (P:Program) (t:TypeId) (n:Nat) {α:Type} (c:α→Nat→DV) (S:α→Prop):Prop where
 size:P.cellsOf t=n
 rd: ∀{H:Type} {enc:TypeId × Value→H} {w:World} {fuel:Nat} {cs:List Value} {x:DataW H × List MemPlace},DataW.trod enc P w 0 (fun _=>true) true fuel t cs=some x→(∀q∈x.1.weights P t,q≤reachBytes)→
  ∃a:α,S a∧cs.length=n∧ ∀j,j<n→ ∃u,cs[j]? =some u∧cO (zJ w) w (c a j) u
section
variable {P:Program} {t e:TypeId}
theorem Rd.z {n:Nat} {α:Type} {c:α→Nat→DV} {S:α→Prop} (h:Rd P t n c S):Rz P t n c S:=⟨h.size,fun h1 _=>h.rd h1⟩
theorem ow {H:Type}: ∀{l:List (DataW H)} {d:DataW H} {q:Nat},d∈l→q∈d.weights P e→q∈DataW.weightsAll P e l
 |[],_,_,h,_=>by cases h
 |d::r,d',q,h,hq=>by
  unfold DataW.weightsAll
  rw [List.mem_append]
  rcases List.mem_cons.1 h with rfl|h
  ·exact .inl hq
  ·exact .inr (ow h hq)
open Classical in
theorem Rz.slice {n b:Nat} {α:Type} [Inhabited α] {c:α→Nat→DV} {S:α→Prop} (ht:P.underlying t=some (.slice e)) (hs:P.cellsOf t=1) (hn:0<n) (hb:P.bytesOf e=b) (he:Rz P e n c S):Rz P t 1 (Rt n c) (fun l=>l.length≤9223372036854775807∧(∀x∈l,S x)∧l.length*b≤140737488351232):=by
 refine⟨hs,fun{H enc w fuel cs x} h hz=> ?_⟩
 rcases open_slice ht h with⟨rfl,_⟩|⟨a,len,cap,m,fu,D,Pl,rfl,hbl,hl,hm,hmm,hxx,hx⟩
 ·refine⟨[],⟨by simp,by simp,by simp⟩,rfl,fun j hj=> ?_⟩
  have:j=0:=by omega
  subst this
  exact⟨_,rfl,none,0,rfl,by simp,by simp,by simp,Nat.le_refl _,by simp⟩
 ·simp only [if_true]at hmm
  subst hmm
  have hwt:x.1.weights P t=(((List.range len).map D).length+((List.range (m - len)).map fun j=>D (len+j)).length)*P.bytesOf e::(DataW.weightsAll P e ((List.range len).map D)++DataW.weightsAll P e ((List.range (m - len)).map fun j=>D (len+j))):=by
   rw [hxx];simp only [DataW.weights,ht]
  rw [hwt]at hz
  have hzi: ∀i,i<m→ ∀q∈(D i).weights P e,q≤reachBytes:=fun i hi q hq=>by
   refine hz q (List.mem_cons_of_mem _ (List.mem_append.2 ?_))
   by_cases h1:i<len
   ·exact .inl (ow (List.mem_map.2 ⟨i,List.mem_range.2 h1,rfl⟩) hq)
   ·exact .inr (ow (List.mem_map.2 ⟨i - len,List.mem_range.2 (by omega),by rw [show len+(i - len)=i by omega]⟩) hq)
  have hz0:len*b≤140737488351232:=by
   have:=hz _ List.mem_cons_self
   rw [List.length_map,List.length_map,List.length_range,List.length_range,hb,show len+(m - len)=m by omega]at this
   have h2:len*b≤m*b:=Nat.mul_le_mul_right _ hl
   have h3:reachBytes=140737488351232:=by decide
   omega
  have hel: ∀i,i<m→ ∃y:α,S y∧ ∀j,j<n→a.spot=none∧ ∃u,w.cell? ⟨a.block,a.off+(i*n+j),none⟩=some u∧cO (zJ w) w (c y j) u:=by
   intro i hi
   obtain⟨cs',h1,h2⟩:=hx i hi
   rw [he.size]at h1
   obtain⟨y,hy,hlen,hc⟩:=he.rd h2 (hzi i hi)
   obtain⟨_,hcl,hat⟩:=World.cells?_some h1
   obtain⟨cs0,h10,h20⟩:=hx 0 (by omega)
   rw [he.size]at h10
   obtain⟨y0,_,hlen0,hc0⟩:=he.rd h20 (hzi 0 (by omega))
   obtain⟨_,_,hat0⟩:=World.cells?_some h10
   obtain⟨u0,hu0,_⟩:=hc0 0 hn
   have hsp:a.spot=none:=by
    have:=(hat0 0 hn).trans hu0
    simp only [Nat.zero_mul]at this
    have h3:=cell_spot this
    simpa [Addr.add]using h3
   refine⟨y,hy,fun j hj=> ⟨hsp, ?_⟩⟩
   obtain⟨u,hu,hr⟩:=hc j hj
   refine⟨u, ?_,hr⟩
   have:=(hat j hj).trans hu
   rw [pV hsp,pV rfl]at this
   rw [←this];simp only [Nat.add_assoc]
  let pick:Nat→α:=fun i=>if h:i<m then Classical.choose (hel i h)else default
  have hpick: ∀i,i<m→S (pick i)∧ ∀j,j<n→a.spot=none∧ ∃u,w.cell? ⟨a.block,a.off+(i*n+j),none⟩=some u∧cO (zJ w) w (c (pick i) j) u:=by
   intro i hi
   show S (dite _ _ _)∧_
   simp only [pick,dif_pos hi]
   exact Classical.choose_spec (hel i hi)
  let l:List α:=(List.range len).map pick
  have hll:l.length=len:=by simp [l]
  have hat: ∀i,i<len→at' l i=pick i:=fun i hi=>by simp [at',l,hi]
  refine⟨l,⟨by rw [hll];exact Nat.le_trans (Nat.le_trans hl hm) (by decide),fun x hx=> ?_,by rw [hll];exact hz0⟩,rfl,fun j hj=> ?_⟩
  ·obtain⟨i,hi,rfl⟩:=List.mem_map.mp hx
   exact(hpick i (Nat.lt_of_lt_of_le (List.mem_range.mp hi) hl)).1
  ·have:j=0:=by omega
   subst this
   refine⟨_,rfl,some a,m, ?_,by simp,by simp,by simp,by rw [hll];exact hl,fun ad ha=> ?_⟩
   ·simp [hll]
   ·cases ha
    refine⟨fun h0=> ?_,fun i hi j hj=> ?_⟩
    ·exact((hpick 0 (by omega)).2 0 hn).1
    ·rw [hll]at hi
     obtain⟨_,u,hu,hr⟩:=(hpick i (by omega)).2 j hj
     exact⟨Nc hu,u,hu,by show cO _ _ (c (at' l i) j) u;rw [hat i hi];exact hr⟩
theorem Rz.fields {fs:Array Field} {n:Nat} (ht:P.underlying t=some (.struct fs)) (hs:P.cellsOf t=n) {H:Type} {enc:TypeId × Value→H} {w:World} {fuel:Nat} {cs:List Value} {x:DataW H × List MemPlace}
  (h:DataW.trod enc P w 0 (fun _=>true) true fuel t cs=some x) (hz: ∀q∈x.1.weights P t,q≤reachBytes):cs.length=n∧ ∀(i:Nat) (f:Field),fs[i]? =some f→ ∃y,DataW.trod enc P w 0 (fun _=>true) true (fuel - 1) f.type ((cs.drop f.offset).take (P.cellsOf f.type))=some y∧ ∀q∈y.1.weights P f.type,q≤reachBytes:=by
 obtain⟨xs,m,rfl,hx,hl,hxl,hf⟩:=DataW.trod_struct ht h
 have hd:x.1= .agg (xs.map (·.1)):=congrArg Prod.fst hx
 refine⟨by rw [hl,hs],fun i f hi=> ?_⟩
 have hlt:=(Array.getElem?_eq_some_iff.mp hi).1
 have h1:=hf i f hi
 rw [List.getElem?_eq_getElem (by omega)]at h1
 refine⟨_,h1,fun q hq=>hz q ?_⟩
 rw [hd]
 simp only [DataW.weights,ht]
 refine DataW.weights_mem_each (j:=i) (t:=f.type) (d:=(xs[i]'(by omega)).1) ?_ ?_ _ hq
 ·rw [List.getElem?_map];simp [hi]
 ·rw [List.getElem?_map,List.getElem?_eq_getElem (by omega)];rfl
theorem Rz.field {n off:Nat} {α:Type} {c:α→Nat→DV} {S:α→Prop} (he:Rz P e n c S) {H:Type} {enc:TypeId × Value→H} {w:World} {fuel:Nat} {cs:List Value}
  (h: ∃y,DataW.trod enc P w 0 (fun _=>true) true fuel e ((cs.drop off).take (P.cellsOf e))=some y∧ ∀q∈y.1.weights P e,q≤reachBytes): ∃a:α,S a∧ ∀j,j<n→ ∃u,cs[off+j]? =some u∧cO (zJ w) w (c a j) u:=by
 obtain⟨y,hy,hz⟩:=h
 rw [he.size]at hy
 obtain⟨a,ha,hl,hc⟩:=he.rd hy hz
 exact⟨a,ha,Dc hc⟩
theorem Rz.elems {m n:Nat} (ht:P.underlying t=some (.array m e)) (hs:P.cellsOf t=n) {H:Type} {enc:TypeId × Value→H} {w:World} {fuel:Nat} {cs:List Value} {x:DataW H × List MemPlace}
  (h:DataW.trod enc P w 0 (fun _=>true) true fuel t cs=some x) (hz: ∀q∈x.1.weights P t,q≤reachBytes):cs.length=n∧ ∀(i:Nat),i<m→ ∃y,DataW.trod enc P w 0 (fun _=>true) true (fuel - 1) e ((cs.drop (i*P.cellsOf e)).take (P.cellsOf e))=some y∧ ∀q∈y.1.weights P e,q≤reachBytes:=by
 obtain⟨xs,q,rfl,hx,hl,hxl,hf⟩:=DataW.trod_array ht h
 have hd:x.1= .agg (xs.map (·.1)):=congrArg Prod.fst hx
 refine⟨by rw [hl,hs],fun i hi=> ?_⟩
 have h1:=hf i hi
 rw [List.getElem?_eq_getElem (by omega)]at h1
 refine⟨_,h1,fun q hq=>hz q ?_⟩
 rw [hd]
 simp only [DataW.weights,ht]
 exact ow (List.mem_map.2 ⟨_,List.getElem_mem _,rfl⟩) hq
theorem Rz.agg {n:Nat} {α:Type} {c:α→Nat→DV} {S:α→Prop} (hr:Rz P t n c S) {fs:Array Field} (ht:P.underlying t=some (.struct fs)) {W:World} {b0:Nat} {v:Value} (hv:Value.okWide P W .any b0 t v)
  {H:Type} {enc:TypeId × Value→H} {d:DataW H} {ps:List MemPlace} (h:DataW.Trod enc P W 0 (fun _=>true) true t v d ps) (hz: ∀q∈d.weights P t,q≤reachBytes):
  ∃a:α,S a∧gJ (fun _=>none) (zJ W) W (.agg ((List.range n).map fun j=> .d (c a j))) v:=by
 obtain⟨cs,rfl,hsz⟩:=okWide_struct ht hv
 obtain⟨fuel,hf⟩:=h
 obtain⟨a,ha,hl,hc⟩:=hr.rd hf hz
 refine⟨a,ha,cs.toList,by simp,bU.oO (by rw [List.length_map,List.length_range];exact hl) fun j x hx=> ?_⟩
 have hj:j<n:=by
  have:=(List.getElem?_eq_some_iff.mp hx).1
  simpa using this
 obtain⟨u,hu,hru⟩:=hc j hj
 refine⟨u,hu, ?_⟩
 simp [hj]at hx
 subst hx
 exact hru
theorem Rz.one {α:Type} {c:α→Nat→DV} {S:α→Prop} (hr:Rz P t 1 c S) {W:World} {v:Value} (hv:v.cells.toList=[v])
  {H:Type} {enc:TypeId × Value→H} {d:DataW H} {ps:List MemPlace} (h:DataW.Trod enc P W 0 (fun _=>true) true t v d ps) (hz: ∀q∈d.weights P t,q≤reachBytes): ∃a:α,S a∧gJ (fun _=>none) (zJ W) W (.one (.d (c a 0))) v:=by
 obtain⟨fuel,hf⟩:=h
 rw [hv]at hf
 obtain⟨a,ha,hl,hc⟩:=hr.rd hf hz
 obtain⟨u,hu,hru⟩:=hc 0 (by omega)
 simp at hu;subst hu
 exact⟨a,ha,hru⟩
end
def okD (x:af):Prop:=1≤x.deed∧x.deed≤8
theorem Vt {p:aj} {s:State} (hs:VS p s) {x:af} (h:iK p x=true):okD x:=by
 obtain⟨_,_,_,_,h5⟩:=yM hs h
 exact h5
section
variable {p:aj} {s:State} (hs:VS p s) {x:af} (hx:iK p x=true) (hh:holdB s x=false)
include hs hx hh
end
noncomputable def pI (p:aj) (t:Task):State→List af→Option State
 |s,[]=>some s
 |s,x::l=>if(nextR p s t x).2=0 then pI p t (nextR p s t x).1 l else none
theorem EZ (p:aj) (t:Task): ∀(l m:List af) (s:State),pI p t s (l++m)=(pI p t s l).bind fun u=>pI p t u m
 |[],m,s=>rfl
 |x::l,m,s=>by
  rw [List.cons_append,pI.eq_2,pI.eq_2]
  split
  ·exact EZ p t l m _
  ·rfl
theorem Jg {p:aj} (hp:VP p) {t:Task}: ∀(l:List af) (s u:State),VS p s→rU p s t=0→pI p t s l=some u→VS p u∧rU p u t=0
 |[],s,u,h1,h2,h=>by
  unfold pI at h;cases h;exact⟨h1,h2⟩
 |x::l,s,u,h1,h2,h=>by
  unfold pI at h
  split at h
  ·rename_i h0
   obtain⟨q1,q2,q3,q4⟩:=nA hp h1 h0
   exact Jg hp l _ u (by rw [q2];exact q3) (by rw [q2];exact q4) h
  ·cases h
theorem Kk {p:aj} {t:Task} {l:List af}: ∀(n i:Nat) (s u:State),i+n=l.length→pI p t s (l.drop i)=some u→qX p t l s i n=((l.length:Int),u,0)
 |0,i,s,u,hi,h=>by
  rw [List.drop_eq_nil_of_le (by omega)]at h
  unfold pI at h;cases h
  unfold qX;rw [show i=l.length by omega]
 |n+1,i,s,u,hi,h=>by
  have hlt:i<l.length:=by omega
  rw [List.drop_eq_getElem_cons hlt,←dH hlt]at h
  unfold pI at h
  unfold qX
  split at h
  ·rename_i h0
   rw [if_pos h0];exact Kk n (i+1) _ u (by omega) h
  ·cases h
theorem PU {p:aj} {s u:State} {t:Task} {l:List af} (h:nT p s t=0) (hl:l.length≤256) (hr:pI p t s l=some u):Ih p s t l=((l.length:Int),u,0):=by
 unfold Ih
 rw [if_neg (by simp [h]),if_neg (by omega)]
 exact Kk l.length 0 s u (by omega) (by rw [List.drop_zero];exact hr)
theorem JK {p:aj} {s:State} {t:Task} {x:af} (h:nT p s t=0):Ih p s t [x]=if(nextR p s t x).2=0 then(1,(nextR p s t x).1,0)else(0,fM,(nextR p s t x).2):=by
 unfold Ih
 rw [if_neg (by simp [h]),if_neg (by simp)]
 rfl
theorem TB {α:Type} [Inhabited α] (l:List α) (i:Nat):nR l i 1=[at' l i]:=by
 unfold nR
 simp
structure Ui (t:Task):Prop where
 f:t.fed.length≤17592186043904
 c:t.crew.length≤17592186043904
 a:t.allowed.length≤8796093021952
 g:t.goal.length≤8796093021952
theorem Qv {t:Task} (h:Ui t):uN t=some t:=by
 obtain⟨h1,h2,h3,h4⟩:=h
 unfold uN oH gI
 rw [av (by omega),av (by omega),av (by omega),av (by omega)]
 rfl
theorem JN (p:aj) {t:Task} (h:Ir t): ∃b,oQ p t=some b:=by
 obtain⟨h1,h2,_,_⟩:=h
 have k0:aA (kX p t) FUEL 0=some (bif (List.range t.fed.length).any (fun i=>bif decide (at' t.fed i<0)then true else decide ((p.racks.length:Int)≤at' t.fed i))then .ret false else .brk ()):=by
  refine bT t.fed.length _ false (by omega) (fun i hi=> ?_) (by unfold kX;simp)
  unfold kX
  simp only [Int.toNat_natCast]
  rw [r9 (by omega),cond_true,av ⟨by omega,fun _=>by omega⟩,wr (by omega)]
  exact dX _ _ _
 have k1:aA (lg p t) FUEL 0=some (bif (List.range t.crew.length).any (fun i=>bif decide (at' t.crew i<0)then true else decide (p.buses≤at' t.crew i))then .ret false else .brk ()):=by
  refine bT t.crew.length _ false (by omega) (fun i hi=> ?_) (by unfold lg;simp)
  unfold lg
  simp only [Int.toNat_natCast]
  rw [r9 (by omega),cond_true,av ⟨by omega,fun _=>by omega⟩,wr (by omega)]
  exact dX _ _ _
 unfold oQ
 rw [k0]
 generalize (List.range t.fed.length).any _=b0
 cases b0 with
 |true=>exact⟨false,rfl⟩
 |false=>
  simp only [cond_false,Option.bind_some]
  rw [k1]
  generalize (List.range t.crew.length).any _=b1
  cases b1 with
  |true=>exact⟨false,rfl⟩
  |false=>exact⟨true,rfl⟩
section
variable {p:aj} (hp:VP p) {s:State} (hs:VS p s) {t:Task} (ht:kD p t=true) (hst:iy t) (h0:rU p s t=0) {l:List af} (hl:l.length≤40)
include hp hs ht hst h0 hl
end
section
variable {p:aj} (hp:VP p) {s:State} (hs:VS p s) {crew:List Int} (hc:crew.length≤24) {b:Int} (hb:0≤b∧b<p.buses) (hu:CF p s crew b=false)
include hp hs hc hb hu
end
section
variable {p:aj} (hp:VP p) {t:Task} (ht:kD p t=true) {s:State} (hs:VS p s) (hl:rU p s t=0) (n e:Int)
include hp ht hs hl
end
section
variable {p:aj} (hp:VP p) {t:Task} (ht:kD p t=true) (hst:iy t) {l:List af} (hl:l.length≤40)
include hp ht hst hl
end
def Q8 (p:aj) (t:Task) (ls:List State) (fb:List (Int × af)) (a:Nat) (x:af):Prop:=
 (nextR p (at' ls a) t x).2=0→ ∃b,b<ls.length∧at' ls b=(nextR p (at' ls a) t x).1∧(path fb b).length≤(path fb a).length+1
structure Sr (p:aj) (t:Task) (s:State) (most:Int) (i k:Nat) (ls:List State) (fb:List (Int × af)):Prop where
 rc:Rc p most ls fb
 nd:ls.Nodup
 hd:at' ls 0=s
 leg: ∀u∈ls,rU p u t=0
 goal: ∀u∈ls,pW u t.goal=false
 run: ∀j,j<ls.length→pI p t s (path fb j)=some (at' ls j)
 sub: ∀j,j<ls.length→ ∀x∈path fb j,x∈t.allowed
 prev: ∀j,0<j→j<ls.length→ ∃f x,f<j∧x∈t.allowed∧nextR p (at' ls f) t x=(at' ls j,0)
 mono: ∀a b,a≤b→b<ls.length→(path fb a).length≤(path fb b).length
 top:i<ls.length→ ∀b,b<ls.length→(path fb b).length≤(path fb i).length+1
 done: ∀a,a<i→a<ls.length→ ∀x∈t.allowed,Q8 p t ls fb a x
 part:i<ls.length→ ∀m,m<k→m<t.allowed.length→Q8 p t ls fb i (at' t.allowed m)
theorem Lv {p:aj} {t:Task} {s u v:State} {l:List af} {x:af} (h:pI p t s l=some u) (hn:nextR p u t x=(v,0)):pI p t s (l++[x])=some v:=by
 rw [EZ,h,Option.bind_some,pI.eq_2,hn,if_pos rfl];rfl
section
variable {p:aj} (hp:VP p) {t:Task} {s:State} {most:Int} {i k:Nat} {ls:List State} {fb:List (Int × af)} (h:Sr p t s most i k ls fb) (hi:i<ls.length)
include hp h hi
theorem Sr.skip (ho:Q8 p t ls fb i (at' t.allowed k)):Sr p t s most i (k+1) ls fb:=by
 refine{h with part:=fun hi m hm hl=> ?_}
 by_cases e:m=k
 ·subst e;exact ho
 ·exact h.part hi m (by omega) hl
theorem Sr.add {v:State} (hk:k<t.allowed.length) (hn:nextR p (at' ls i) t (at' t.allowed k)=(v,0)) (hv:v ∉ ls) (hmo:((ls++[v]).length:Int)≤most) (hg:pW v t.goal=false):
  Sr p t s most i (k+1) (ls++[v]) (fb++[((i:Int),at' t.allowed k)]):=by
 have hl:=h.rc.len
 have hvi:=h.rc.vs _ (at_mem hi)
 have hok:=nA hp hvi (x:=at' t.allowed k) (t:=t) (by rw [hn])
 rw [hn]at hok
 have hvv:VS p v:=by have:=hok.2.1;simp only at this;rw [this];exact hok.2.2.1
 have hrc:=h.rc.add hvv hi (x:=at' t.allowed k) hmo
 have pnew:path (fb++[((i:Int),at' t.allowed k)]) ls.length=path fb i++[at' t.allowed k]:=by rw [←hl];exact Ca h.rc (by omega) _
 have pold: ∀j,j<ls.length→path (fb++[((i:Int),at' t.allowed k)]) j=path fb j:=fun j hj=>KH h.rc (by omega) _
 have anew:at' (ls++[v]) ls.length=v:=xC ls v
 have aold: ∀j,j<ls.length→at' (ls++[v]) j=at' ls j:=fun j hj=>rQ hj
 have hlen:(ls++[v]).length=ls.length+1:=by simp
 have hpos:=h.rc.pos
 have okmap: ∀a,a<ls.length→ ∀x,Q8 p t ls fb a x→Q8 p t (ls++[v]) (fb++[((i:Int),at' t.allowed k)]) a x:=fun a ha x ho h0=>by
  rw [aold a ha]at h0 ⊢
  obtain⟨b,b1,b2,b3⟩:=ho h0
  exact⟨b,by omega,by rw [aold b b1];exact b2,by rw [pold b b1,pold a ha];exact b3⟩
 refine⟨hrc, ?_,by rw [aold 0 hpos];exact h.hd, ?_, ?_, ?_, ?_, ?_, ?_, ?_, ?_, ?_⟩
 ·rw [List.nodup_append]
  exact⟨h.nd,by simp,fun a ha b hb=>by rw [List.mem_singleton]at hb;subst hb;intro e;subst e;exact hv ha⟩
 ·intro u hu
  rw [List.mem_append,List.mem_singleton]at hu
  rcases hu with hu|rfl
  ·exact h.leg u hu
  ·have:=hok.2.1;simp only at this;rw [this];exact hok.2.2.2
 ·intro u hu
  rw [List.mem_append,List.mem_singleton]at hu
  rcases hu with hu|rfl
  ·exact h.goal u hu
  ·exact hg
 ·intro j hj
  by_cases e:j<ls.length
  ·rw [pold j e,aold j e];exact h.run j e
  ·have:j=ls.length:=by omega
   subst this
   rw [pnew,anew];exact Lv (h.run i hi) hn
 ·intro j hj x hx
  by_cases e:j<ls.length
  ·rw [pold j e]at hx;exact h.sub j e x hx
  ·have:j=ls.length:=by omega
   subst this
   rw [pnew,List.mem_append,List.mem_singleton]at hx
   rcases hx with hx|rfl
   ·exact h.sub i hi x hx
   ·exact at_mem hk
 ·intro j h0 hj
  by_cases e:j<ls.length
  ·obtain⟨f,x,f1,f2,f3⟩:=h.prev j h0 e
   exact⟨f,x,f1,f2,by rw [aold f (by omega),aold j e];exact f3⟩
  ·have:j=ls.length:=by omega
   subst this
   exact⟨i,_,hi,at_mem hk,by rw [aold i hi,anew];exact hn⟩
 ·intro a b hab hb
  by_cases e:b<ls.length
  ·rw [pold a (by omega),pold b e];exact h.mono a b hab e
  ·have:b=ls.length:=by omega
   subst this
   by_cases e2:a<ls.length
   ·rw [pold a e2,pnew,List.length_append,List.length_singleton];exact h.top hi a e2
   ·have:a=ls.length:=by omega
    subst this;exact Nat.le_refl _
 ·intro _ b hb
  rw [pold i hi]
  by_cases e:b<ls.length
  ·rw [pold b e];exact h.top hi b e
  ·have:b=ls.length:=by omega
   subst this
   rw [pnew,List.length_append,List.length_singleton];exact Nat.le_refl _
 ·intro a ha _ x hx
  exact okmap a (by omega) x (h.done a ha (by omega) x hx)
 ·intro _ m hm hml
  by_cases e:m=k
  ·subst e
   intro h0
   rw [aold i hi,hn]
   exact⟨ls.length,by omega,anew,by rw [pnew,pold i hi,List.length_append,List.length_singleton];exact Nat.le_refl _⟩
  ·exact okmap i hi _ (h.part hi m (by omega) hml)
end
theorem Sr.next {p:aj} {t:Task} {s:State} {most:Int} {i:Nat} {ls:List State} {fb:List (Int × af)} (h:Sr p t s most i t.allowed.length ls fb) (hi:i<ls.length):Sr p t s most (i+1) 0 ls fb:=by
 refine{h with top:=fun hi1 b hb=> ?_,done:=fun a ha hal x hx=> ?_,part:=fun _ m hm=>absurd hm (Nat.not_lt_zero m)}
 ·have h1:=h.top hi b hb
  have h2:=h.mono i (i+1) (by omega) hi1
  omega
 ·by_cases e:a=i
  ·subst e
   obtain⟨m,hm,rfl⟩:=eU hx
   exact h.part hi m hm hm
  ·exact h.done a (by omega) hal x hx
def ZK (p:aj) (t:Task) (s:State) (most:Int) (ls':List State) (fb':List (Int × af)):Prop:=
 ∃i k ls fb v,Sr p t s most i k ls fb∧i<ls.length∧k<t.allowed.length∧nextR p (at' ls i) t (at' t.allowed k)=(v,0)∧v ∉ ls∧pW v t.goal=true∧((ls++[v]).length:Int)≤most∧ls'=ls++[v]∧fb'=fb++[((i:Int),at' t.allowed k)]
def ZA (p:aj) (t:Task) (s:State) (most:Int) (i:Nat):Out→Prop
 | .go ls fb=>Sr p t s most i t.allowed.length ls fb∧i<ls.length
 | .large=>True
 | .found ls' fb'=>ZK p t s most ls' fb'
section
variable {p:aj} (hp:VP p) {t:Task} {s:State} {most:Int}
include hp
theorem Jf (i:Nat) (now:State): ∀(n k:Nat) (ls:List State) (fb:List (Int × af)),k+n=t.allowed.length→Sr p t s most i k ls fb→i<ls.length→at' ls i=now→ZA p t s most i (Io p t most now i n k ls fb)
 |0,k,ls,fb,hk,h,hi,hnow=>by
  rw [Nat.add_zero]at hk;subst hk
  exact⟨h,hi⟩
 |n+1,k,ls,fb,hk,h,hi,hnow=>by
  unfold Io
  have hkl:k<t.allowed.length:=by omega
  split
  ·rename_i h1
   refine Jf i now n (k+1) ls fb (by omega) (h.skip hp hi ?_) hi hnow
   intro h0;rw [hnow]at h0;exact absurd h0 h1
  ·rename_i h1
   have hz:(nextR p now t (at' t.allowed k)).2=0:=Decidable.not_not.1 h1
   split
   ·rename_i h2
    refine Jf i now n (k+1) ls fb (by omega) (h.skip hp hi ?_) hi hnow
    intro _
    rw [hnow]
    obtain⟨b,b1,b2⟩:=eU h2
    exact⟨b,b1,b2,h.top hi b b1⟩
   ·rename_i h2
    split
    ·trivial
    ·rename_i h3
     have hn:nextR p (at' ls i) t (at' t.allowed k)=((nextR p now t (at' t.allowed k)).1,0):=by
      rw [hnow,←hz]
     split
     ·rename_i h4
      exact⟨i,k,ls,fb,_,h,hi,hkl,hn,h2,h4,by omega,rfl,rfl⟩
     ·rename_i h4
      refine Jf i now n (k+1) _ _ (by omega) (h.add hp hi hkl hn h2 (by omega) (by simpa using h4)) (by simp;omega) (by rw [rQ hi];exact hnow)
theorem Qu: ∀(F i:Nat) (ls:List State) (fb:List (Int × af)),Sr p t s most i 0 ls fb→i≤ls.length→most<(i:Int)+(F:Int)→
  match Lj p t most F i ls fb with
  | .go ls' fb'=> ∃i',Sr p t s most i' 0 ls' fb'∧ls'.length≤i'
  | .large=>True
  | .found ls' fb'=>ZK p t s most ls' fb'
 |0,i,ls,fb,h,hi,hF=>by have:=h.rc.most;omega
 |F+1,i,ls,fb,h,hi,hF=>by
  unfold Lj
  by_cases hlt:i<ls.length
  ·rw [if_pos hlt]
   have:=Jf hp i (at' ls i) t.allowed.length 0 ls fb (by omega) h hlt rfl
   revert this
   cases Io p t most (at' ls i) i t.allowed.length 0 ls fb with
   |go ls' fb'=>exact fun q=>Qu F (i+1) ls' fb' (q.1.next q.2) (by have:=q.2;omega) (by omega)
   |large=>exact fun _=>trivial
   |found ls' fb'=>exact fun q=>q
  ·rw [if_neg hlt];exact⟨i,h,by omega⟩
theorem QW (hs:VS p s) (hm:1≤most∧most≤20000) (h0:rU p s t=0) (hg:pW s t.goal=false):Sr p t s most 0 0 [s] [(-1,⟨0,0⟩)]:=by
 have hj0: ∀j,j<[s].length→j=0:=fun j hj=>by simp at hj;exact hj
 have hpath:path [((-1:Int),(⟨0,0⟩:af))] 0=[]:=by simp [path,om]
 refine⟨Ed hs hm _,by simp,rfl,fun u hu=> ?_,fun u hu=> ?_,fun j hj=> ?_,fun j hj x hx=> ?_,fun j h0 hj=> ?_,fun a b hab hb=> ?_,fun _ b hb=> ?_,fun a ha=>absurd ha (Nat.not_lt_zero a),fun _ m hm=>absurd hm (Nat.not_lt_zero m)⟩
 ·rw [List.mem_singleton]at hu;rw [hu];exact h0
 ·rw [List.mem_singleton]at hu;rw [hu];exact hg
 ·rw [hj0 j hj,hpath];rfl
 ·rw [hj0 j hj,hpath]at hx;simp at hx
 ·have:=hj0 j hj;omega
 ·have:=hj0 b hb;have:a=b:=by omega
  subst this;exact Nat.le_refl _
 ·rw [hj0 b hb,hpath];simp
end
theorem KS: ∀(N:Nat) (l:List Nat),l.Nodup→(∀x∈l,x<N)→l.length≤N
 |0,l,_,h=>by
  cases l with
  |nil=>exact Nat.le_refl _
  |cons a b=>exact absurd (h a (by simp)) (Nat.not_lt_zero a)
 |N+1,l,hn,h=>by
  have:=KS N (l.erase N) (hn.erase N) (fun x hx=>by
   have h1:=(hn.mem_erase_iff).1 hx
   have:=h x h1.2
   omega)
  rw [List.length_erase]at this
  split at this<;>omega
def Gj:List Bool→Nat
 |[]=>0
 |b::l=>2*Gj l+(bif b then 1 else 0)
theorem Nq: ∀l:List Bool,Gj l<2 ^ l.length
 |[]=>by simp [Gj]
 |b::l=>by
  have:=Nq l
  unfold Gj
  rw [List.length_cons,Nat.pow_succ]
  cases b<;>simp<;>omega
theorem Ll: ∀l m:List Bool,l.length=m.length→Gj l=Gj m→l=m
 |[],[],_,_=>rfl
 |a::l,b::m,h,e=>by
  rw [List.length_cons,List.length_cons]at h
  unfold Gj at e
  have:Gj l=Gj m∧a=b:=by
   cases a<;>cases b<;>simp at e ⊢ <;>omega
  rw [Ll l m (by omega) this.1,this.2]
 |[],_::_,h,_=>by simp at h
 |_::_,[],h,_=>by simp at h
def tch (al:List af) (d1 d2:Int) (i:Nat):Prop:= ∃x∈al,(x.deed=d1∨x.deed=d2)∧x.index.toNat=i
def Tn (al:List af) (d1 d2:Int) (a b:List Bool):Prop:=a.length=b.length∧ ∀i,at' a i=at' b i∨tch al d1 d2 i
theorem BK (al:List af) (d1 d2:Int) (a:List Bool):Tn al d1 d2 a a:=⟨rfl,fun _=> .inl rfl⟩
theorem uH {al:List af} {d1 d2:Int} {a b:List Bool} (h:Tn al d1 d2 a b) {x:af} (hx:x∈al) (hd:x.deed=d1∨x.deed=d2) (v:Bool):Tn al d1 d2 (a.set x.index.toNat v) b:=by
 refine⟨by rw [List.length_set];exact h.1,fun i=> ?_⟩
 by_cases e:x.index.toNat=i
 ·exact .inr ⟨x,hx,hd,e⟩
 ·rw [bE e];exact h.2 i
theorem DR {al:List af} {d1 d2:Int} {a a' b:List Bool} (h:Tn al d1 d2 a b) (h':Tn al d1 d2 a' b) (hs: ∀x∈al,(x.deed=d1∨x.deed=d2)→at' a x.index.toNat=at' a' x.index.toNat):a=a':=by
 refine lM (h.1.trans h'.1.symm) fun i _=> ?_
 by_cases c:tch al d1 d2 i
 ·obtain⟨x,hx,hd,rfl⟩:=c
  exact hs x hx hd
 ·rw [(h.2 i).resolve_right c,(h'.2 i).resolve_right c]
structure Ng (al:List af) (u s:State):Prop where
 c:Tn al 1 2 u.closed s.closed
 l:Tn al 5 6 u.locked s.locked
 o:Tn al 7 8 u.on_ s.on_
 e:Tn al 3 4 u.earthed s.earthed
 bl:u.badLink=s.badLink
 bs:u.badSource=s.badSource
 bb:u.badBus=s.badBus
theorem Ng.refl (al:List af) (s:State):Ng al s s:=⟨BK _ _ _ _,BK _ _ _ _,BK _ _ _ _,BK _ _ _ _,rfl,rfl,rfl⟩
theorem Ng.step {al:List af} {u s:State} (h:Ng al u s) {x:af} (hx:x∈al) (ho:okD x):Ng al (mQ u x) s:=by
 obtain⟨h1,h2,h3,h4,h5,h6,h7⟩:=h
 unfold okD at ho
 unfold mQ
 rcases vG x.deed with e|e|e|e|e|e|e|e|e
 ·simp [e];exact⟨uH h1 hx (by omega) _,h2,h3,h4,h5,h6,h7⟩
 ·simp [e];exact⟨uH h1 hx (by omega) _,h2,h3,h4,h5,h6,h7⟩
 ·simp [e];exact⟨h1,h2,h3,uH h4 hx (by omega) _,h5,h6,h7⟩
 ·simp [e];exact⟨h1,h2,h3,uH h4 hx (by omega) _,h5,h6,h7⟩
 ·simp [e];exact⟨h1,uH h2 hx (by omega) _,h3,h4,h5,h6,h7⟩
 ·simp [e];exact⟨h1,uH h2 hx (by omega) _,h3,h4,h5,h6,h7⟩
 ·simp [e];exact⟨h1,h2,uH h3 hx (by omega) _,h4,h5,h6,h7⟩
 ·simp [e];exact⟨h1,h2,uH h3 hx (by omega) _,h4,h5,h6,h7⟩
 ·omega
theorem Ng.inj {al:List af} {u u' s:State} (h:Ng al u s) (h':Ng al u' s) (hs: ∀x∈al,holdB u x=holdB u' x):u=u':=by
 obtain⟨h1,h2,h3,h4,h5,h6,h7⟩:=h
 obtain⟨k1,k2,k3,k4,k5,k6,k7⟩:=h'
 refine Hl.2 ⟨DR h1 k1 fun x hx hd=> ?_,DR h2 k2 fun x hx hd=> ?_,h5.trans k5.symm,DR h3 k3 fun x hx hd=> ?_,h6.trans k6.symm,DR h4 k4 fun x hx hd=> ?_,h7.trans k7.symm⟩
 all_goals
  have:=hs x hx
  unfold holdB at this
  rcases hd with e|e<;>simp [e]at this<;>exact this
theorem I5 {p:aj} (hp:VP p) {t:Task} {s0:State}: ∀(l:List af) (s u:State),VS p s→Ng t.allowed s s0→(∀x∈l,x∈t.allowed)→pI p t s l=some u→Ng t.allowed u s0
 |[],s,u,hs,ha,hl,h=>by unfold pI at h;cases h;exact ha
 |x::l,s,u,hs,ha,hl,h=>by
  unfold pI at h
  split at h
  ·rename_i h0
   obtain⟨q1,q2,q3,q4⟩:=nA hp hs h0
   rw [q2]at h
   exact I5 hp l _ u q3 (ha.step (hl x (by simp)) (Vt hs (vW q1).1)) (fun y hy=>hl y (by simp [hy])) h
  ·cases h
theorem xI {α:Type} {f:α→Nat}: ∀{l:List α},l.Nodup→(∀a∈l,∀b∈l,f a=f b→a=b)→(l.map f).Nodup
 |[],_,_=>by simp
 |a::l,h,hf=>by
  rw [List.nodup_cons]at h
  rw [List.map_cons,List.nodup_cons]
  refine⟨fun hm=> ?_,xI h.2 fun x hx y hy=>hf x (by simp [hx]) y (by simp [hy])⟩
  rw [List.mem_map]at hm
  obtain⟨b,hb,e⟩:=hm
  have:=hf b (by simp [hb]) a (by simp) e
  subst this;exact h.1 hb
theorem count_le {al:List af} {s:State} {L:List State} (hal:al.length≤8) (hn:L.Nodup) (ha: ∀u∈L,Ng al u s):L.length≤256:=by
 have h1:=xI (f:=fun u=>Gj (al.map (holdB u))) hn (fun a hA b hB e=>by
  have:=Ll _ _ (by simp) e
  refine(ha a hA).inj (ha b hB) fun x hx=> ?_
  obtain⟨i,hi,rfl⟩:=eU hx
  have q:at' (al.map (holdB a)) i=at' (al.map (holdB b)) i:=by rw [this]
  rw [dH (by simpa using hi),dH (by simpa using hi),List.getElem_map,List.getElem_map]at q
  rw [dH hi];exact q)
 have h2:=KS 256 _ h1 (fun x hx=>by
  rw [List.mem_map]at hx
  obtain⟨u,_,rfl⟩:=hx
  have:=Nq (al.map (holdB u))
  rw [List.length_map]at this
  have:=Nat.pow_le_pow_right (n:=2) (by omega) hal
  omega)
 rw [List.length_map]at h2;exact h2
structure Vv (p:aj) (t:Task) (s:State) (pr:List af):Prop where
 run: ∃v,pI p t s pr=some v∧pW v t.goal=true
 sub: ∀x∈pr,x∈t.allowed
 len:t.allowed.length≤8→pr.length≤256
 min: ∀q u,(∀x∈q,x∈t.allowed)→pI p t s q=some u→q.length<pr.length→pW u t.goal=false
section
variable {p:aj} (hp:VP p) {t:Task} {s:State} (hs:VS p s) {most:Int}
include hp hs
theorem Sr.agr {i k:Nat} {ls:List State} {fb:List (Int × af)} (h:Sr p t s most i k ls fb): ∀u∈ls,Ng t.allowed u s:=by
 intro u hu
 obtain⟨j,hj,rfl⟩:=eU hu
 exact I5 hp _ s _ hs (Ng.refl _ _) (h.sub j hj) (h.run j hj)
theorem near {i k:Nat} {ls:List State} {fb:List (Int × af)} (h:Sr p t s most i k ls fb) (hi:i<ls.length): ∀(q:List af) (a m:Nat) (u:State),a<ls.length→(path fb a).length≤m→m+q.length≤(path fb i).length→(∀x∈q,x∈t.allowed)→pI p t (at' ls a) q=some u→u∈ls
 |[],a,m,u,ha,hm,hl,hq,hr=>by
  unfold pI at hr;cases hr;exact at_mem ha
 |x::q,a,m,u,ha,hm,hl,hq,hr=>by
  rw [List.length_cons]at hl
  unfold pI at hr
  split at hr
  ·rename_i h0
   have hai:a<i:=by
    by_cases c:a<i
    ·exact c
    ·have:=h.mono i a (by omega) ha
     omega
   obtain⟨b,b1,b2,b3⟩:=h.done a hai ha x (hq x (by simp)) h0
   rw [←b2]at hr
   exact near h hi q b (m+1) u b1 (by omega) (by omega) (fun y hy=>hq y (by simp [hy])) hr
  ·cases hr
theorem RZ {ls:List State} {fb:List (Int × af)} (h:ZK p t s most ls fb):Vv p t s (path fb (ls.length - 1)):=by
 obtain⟨i,k,ls0,fb0,v,h,hi,hk,hn,hv,hg,hmo,rfl,rfl⟩:=h
 have hl:=h.rc.len
 have pnew:path (fb0++[((i:Int),at' t.allowed k)]) ls0.length=path fb0 i++[at' t.allowed k]:=by rw [←hl];exact Ca h.rc (by omega) _
 have e:(ls0++[v]).length - 1=ls0.length:=by simp
 have hrun:=Lv (h.run i hi) hn
 have hsub: ∀x∈path fb0 i++[at' t.allowed k],x∈t.allowed:=fun x hx=>by
  rw [List.mem_append,List.mem_singleton]at hx
  rcases hx with hx|rfl
  ·exact h.sub i hi x hx
  ·exact at_mem hk
 rw [e,pnew]
 refine⟨⟨v,hrun,hg⟩,hsub,fun hal=> ?_,fun q u hq hr hlt=> ?_⟩
 ·have hnd:(ls0++[v]).Nodup:=by
   rw [List.nodup_append]
   exact⟨h.nd,by simp,fun a ha b hb=>by rw [List.mem_singleton]at hb;subst hb;intro e;subst e;exact hv ha⟩
  have hc:=count_le hal hnd fun u hu=>by
   rw [List.mem_append,List.mem_singleton]at hu
   rcases hu with hu|rfl
   ·exact h.agr hp hs u hu
   ·exact I5 hp _ s _ hs (Ng.refl _ _) hsub hrun
  have:=Bq (fb0++[((i:Int),at' t.allowed k)]) (ls0.length+1) ((ls0.length:Nat):Int)
  have e2:om (fb0++[((i:Int),at' t.allowed k)]) (ls0.length+1) ((ls0.length:Nat):Int)=path fb0 i++[at' t.allowed k]:=pnew
  rw [e2]at this
  rw [List.length_append,List.length_singleton]at hc
  omega
 ·rw [List.length_append,List.length_singleton]at hlt
  have hp0:(path fb0 0).length≤0:=by unfold path om;simp
  have hpos:=h.rc.pos
  have hin:=near hp hs h hi q 0 0 u hpos hp0 (by omega) hq (by rw [h.hd];exact hr)
  exact h.goal u hin
end
section
variable {p:aj} (hp:VP p) {t:Task} (ht:kD p t=true) (hst:iy t)
include hp ht hst
theorem all_eq {u:State} (hu:VS p u):oh p u t.goal=some (pW u t.goal):=by
 obtain⟨_,_,_,⟨gl,gx⟩⟩:=dG ht
 have hsm:=VP.small hp
 have e: ∀i,i<t.goal.length→ny p u (at' t.goal i)=some (holdB u (at' t.goal i),0):=fun i hi=>by
  rw [Pk hsm];unfold Q5;rw [if_neg (by simp [dP.mpr ⟨hp,hu⟩]),gx _ (at_mem hi),if_pos rfl]
 have key:aA (o7 p u t.goal) FUEL 0=some (bif t.goal.any (fun x=> !holdB u x)then .ret false else .brk ()):=by
  rw [←iO t.goal fun x=> !holdB u x]
  refine bT t.goal.length (fun i=> !holdB u (at' t.goal i)) false (by omega) (fun i hi=> ?_) (by unfold o7;simp)
  unfold o7
  simp only [Int.toNat_natCast]
  rw [r9 (by omega),cond_true,e i hi,Option.bind_some,av (by omega),wr (by omega)]
  exact dX _ _ _
 unfold oh
 rw [key]
 have e2:pW u t.goal= !t.goal.any (fun x=> !holdB u x):=by
  unfold pW;rw [List.all_eq_not_any_not]
 rw [e2]
 cases t.goal.any fun x=> !holdB u x<;>rfl
theorem YR {pr:List af} (hsub: ∀x∈pr,x∈t.allowed) (hl:pr.length≤1000) (ls:List State) (e:Int):aA (cZ t (pr,ls,e)) FUEL 0=some (.brk ()):=by
 obtain⟨_,_,⟨al,_⟩,_⟩:=dG ht
 refine QC pr (by omega) (fun i hi=> ?_) (by unfold cZ;simp)
 have inner:aA (fJ t (pr,ls,e) (i:Int)) FUEL (false,0)=some (.brk true):=by
  have e1:(false,(0:Int))=(fun k:Nat=>(@decide (at' pr i∈t.allowed.take k) (Classical.propDecidable _),(k:Int))) 0:=by simp
  rw [e1]
  refine dL (fun k:Nat=>(@decide (at' pr i∈t.allowed.take k) (Classical.propDecidable _),(k:Int))) t.allowed.length _ (fuel_lt (by omega)) (fun k hk=> ?_) ?_
  ·unfold fJ
   simp only [Int.toNat_natCast]
   rw [r9 (by omega),cond_true,av ⟨fun _=>by omega,fun _=>by omega⟩,wr (by omega),eH]
   have:(@decide (at' pr i∈t.allowed.take k) (Classical.propDecidable _)||(decide ((at' t.allowed k).deed=(at' pr i).deed) && (decide ((at' t.allowed k).index=(at' pr i).index) && true)))= @decide (at' pr i∈t.allowed.take (k+1)) (Classical.propDecidable _):=by
    have d1:= @decide_eq_true_iff (at' pr i∈t.allowed.take k) (Classical.propDecidable _)
    have d2:= @decide_eq_true_iff (at' pr i∈t.allowed.take (k+1)) (Classical.propDecidable _)
    rw [Bool.eq_iff_iff,Bool.or_eq_true,d1,d2,mg hk,List.mem_append,List.mem_singleton,Bool.and_true,Bool.and_eq_true,decide_eq_true_iff,decide_eq_true_iff]
    refine or_congr Iff.rfl ⟨fun⟨a,b⟩=> ?_,fun a=>by rw [a];exact⟨rfl,rfl⟩⟩
    cases hA:at' t.allowed k
    cases hB:at' pr i
    rw [hA,hB]at a b
    simp only at a b
    rw [a,b]
   rw [this];rfl
  ·unfold fJ
   simp only
   have d2:= @decide_eq_true_iff (at' pr i∈t.allowed.take t.allowed.length) (Classical.propDecidable _)
   rw [decide_eq_false (show ¬ ((t.allowed.length:Int)<(t.allowed.length:Int)) by omega),cond_false,d2.2 (by rw [List.take_length];exact hsub _ (at_mem hi))]
 unfold cZ
 revert inner
 generalize aA (fJ t (pr,ls,e) (i:Int)) FUEL (false,0)=o1
 intro inner
 subst inner
 dsimp only
 rw [r9 (by omega),cond_true,Option.bind_some,wr (by omega)]
 rfl
theorem Qi {s:State} (hs:VS p s) (h0:rU p s t=0) {other:List Int} (hoth:other.length≤20) {pr:List af} (hb:Vv p t s pr) (ls:List State) (e:Int):
  ∀(n i:Nat) (q:List af) (now:State),i+n=other.length→q.length≤i→(∀x∈q,x∈t.allowed)→pI p t s q=some now→
  ∃k,k≤n+1∧aA (aN p t other t (pr,ls,e)) k (now.closed,now.locked,now.badLink,now.on_,now.badSource,now.earthed,now.badBus,(q.length:Int),(i:Int))=some (.brk ())
 |0,i,q,now,hi,hq,hqs,hr=>by
  refine⟨1,by omega, ?_⟩
  rw [aD]
  unfold aN
  simp only
  rw [decide_eq_false (show ¬ (i:Int)<(other.length:Int) by omega)]
  rfl
 |n+1,i,q,now,hi,hq,hqs,hr=>by
  obtain⟨v1,v2⟩:=Jg hp q s now hs h0 hr
  have hL:nT p now t=0:=by rw [wO hp v1 ht];exact v2
  have hsm:=VP.small hp
  obtain⟨_,_,⟨al,ax⟩,_⟩:=dG ht
  by_cases ha:t.allowed.length=0
  ·refine⟨1,by omega, ?_⟩
   rw [aD]
   unfold aN
   simp only
   rw [decide_eq_false (show ¬ (0:Int)<(t.allowed.length:Int) by omega)]
   cases decide ((i:Int)<(other.length:Int))<;>rfl
  ·obtain⟨b,hb1,hb2⟩:=R3 (at' other i) (t.allowed.length:Int) ⟨by omega,by omega⟩
   have hbl:b<t.allowed.length:=by omega
   have hcond:(bif pW now t.goal then decide ((q.length:Int)<(pr.length:Int))else false)=false:=by
    cases hm:pW now t.goal with
    |false=>rfl
    |true=>
     rw [cond_true]
     refine decide_eq_false fun c=> ?_
     have:=hb.min q now hqs hr (by omega)
     rw [hm]at this;cases this
   have hver:bW p (⟨now.closed,now.locked,now.badLink,now.on_,now.badSource,now.earthed,now.badBus⟩:State) t (nR t.allowed (b:Int).toNat ((((b:Int)+1).toNat) - (b:Int).toNat))=some (Ih p now t [at' t.allowed b]):=by
    rw [show(⟨now.closed,now.locked,now.badLink,now.on_,now.badSource,now.earthed,now.badBus⟩:State)=now from rfl,show(((b:Int)+1).toNat) - (b:Int).toNat=1 by omega,Int.toNat_natCast,TB,zo hsm now hst]
   by_cases hz:(nextR p now t (at' t.allowed b)).2=0
   ·obtain⟨q1,q2,q3,q4⟩:=nA hp v1 hz
    have hrun:pI p t s (q++[at' t.allowed b])=some (nextR p now t (at' t.allowed b)).1:=by
     rw [EZ,hr,Option.bind_some,pI.eq_2,if_pos hz];rfl
    obtain⟨k,hk1,hk2⟩:=Qi hs h0 hoth hb ls e n (i+1) (q++[at' t.allowed b]) _ (by omega) (by rw [List.length_append,List.length_singleton];omega) (fun x hx=>by
     rw [List.mem_append,List.mem_singleton]at hx
     rcases hx with hx|rfl
     ·exact hqs x hx
     ·exact at_mem hbl) hrun
    refine⟨k+1,by omega, ?_⟩
    have hstep:aN p t other t (pr,ls,e) (now.closed,now.locked,now.badLink,now.on_,now.badSource,now.earthed,now.badBus,(q.length:Int),(i:Int))=some (.next ((nextR p now t (at' t.allowed b)).1.closed,(nextR p now t (at' t.allowed b)).1.locked,(nextR p now t (at' t.allowed b)).1.badLink,(nextR p now t (at' t.allowed b)).1.on_,(nextR p now t (at' t.allowed b)).1.badSource,(nextR p now t (at' t.allowed b)).1.earthed,(nextR p now t (at' t.allowed b)).1.badBus,((q++[at' t.allowed b]).length:Int),((i+1:Nat):Int))):=by
     unfold aN
     dsimp only
     rw [r9 (by omega),decide_eq_true (show(0:Int)<(t.allowed.length:Int) by omega),zO (by rfl),show(⟨now.closed,now.locked,now.badLink,now.on_,now.badSource,now.earthed,now.badBus⟩:State)=now from rfl,all_eq hp ht hst v1,Option.bind_some,uQ hcond,Int.toNat_natCast,hb1,Option.bind_some,av (by omega),wr (x:=(b:Int)+1) (by omega),show bW p now t (nR t.allowed (b:Int).toNat ((((b:Int)+1).toNat) - (b:Int).toNat))=_ from hver,Option.bind_some,av (by omega),JK hL,if_pos hz,zO (by rfl),wr (by omega),wr (by omega),List.length_append,List.length_singleton]
     rfl
    rw [aD,hstep];exact hk2
   ·obtain⟨k,hk1,hk2⟩:=Qi hs h0 hoth hb ls e n (i+1) q now (by omega) (by omega) hqs hr
    refine⟨k+1,by omega, ?_⟩
    have hstep:aN p t other t (pr,ls,e) (now.closed,now.locked,now.badLink,now.on_,now.badSource,now.earthed,now.badBus,(q.length:Int),(i:Int))=some (.next (now.closed,now.locked,now.badLink,now.on_,now.badSource,now.earthed,now.badBus,(q.length:Int),((i+1:Nat):Int))):=by
     unfold aN
     dsimp only
     rw [r9 (by omega),decide_eq_true (show(0:Int)<(t.allowed.length:Int) by omega),zO (by rfl),show(⟨now.closed,now.locked,now.badLink,now.on_,now.badSource,now.earthed,now.badBus⟩:State)=now from rfl,all_eq hp ht hst v1,Option.bind_some,uQ hcond,Int.toNat_natCast,hb1,Option.bind_some,av (by omega),wr (x:=(b:Int)+1) (by omega),show bW p now t (nR t.allowed (b:Int).toNat ((((b:Int)+1).toNat) - (b:Int).toNat))=_ from hver,Option.bind_some,av (by omega),JK hL,if_neg hz,uQ (by simp [hz]),wr (by omega)]
     rfl
    rw [aD,hstep];exact hk2
end
section
variable {p:aj} (hp:VP p) {t:Task} (ht:kD p t=true) {s:State} (hs:VS p s) {most:Int} (hmo:most≤20000) {n:Nat} {ls:List State} {fb:List (Int × af)} (h:Sr p t s most n 0 ls fb) (hn:ls.length≤n)
include hp ht hs hmo h hn
theorem J5:uJ p s t ls=0:=by
 have hmost:=h.rc.most
 have h0:rU p s t=0:=by
  have:=h.leg _ (at_mem h.rc.pos);rw [h.hd]at this;exact this
 have hbad:ls.any (wK p t)=false:=by
  rw [List.any_eq_false]
  intro y hy
  have h1:nT p y t=0:=by rw [wO hp (h.rc.vs y hy) ht];exact h.leg y hy
  unfold wK
  rw [h1,h.goal y hy];simp
 have hin:decide (s∈ls)=true:=decide_eq_true (by have:=at_mem h.rc.pos;rw [h.hd]at this;exact this)
 have hesc:ls.any (fun y=>t.allowed.any (sN p t ls y))=false:=by
  rw [List.any_eq_false]
  intro y hy
  rw [Bool.not_eq_true,List.any_eq_false]
  intro x hx
  obtain⟨a,ha,rfl⟩:=eU hy
  unfold sN
  by_cases hz:(nextR p (at' ls a) t x).2=0
  ·obtain⟨b,b1,b2,_⟩:=h.done a (by omega) ha x hx hz
   have:(nextR p (at' ls a) t x).1∈ls:=b2 ▸ at_mem b1
   rw [decide_eq_true this];simp
  ·rw [decide_eq_false hz];simp
 unfold uJ
 rw [if_neg (by rw [wO hp hs ht];simp [h0]),if_neg (by omega),hbad,hin,hesc]
 rfl
theorem IV {i:Nat} (hi:i<ls.length):uJ p s t (ls.take i++ls.drop (i+1))=7:=by
 have hmost:=h.rc.most
 have h0:rU p s t=0:=by
  have:=h.leg _ (at_mem h.rc.pos);rw [h.hd]at this;exact this
 have hlen:(ls.take i++ls.drop (i+1)).length≤20000:=by rw [List.length_append,List.length_take,List.length_drop];omega
 have hdec:ls=ls.take i++at' ls i::ls.drop (i+1):=by
  conv=>lhs;rw [←List.take_append_drop i ls]
  rw [List.drop_eq_getElem_cons hi,dH hi]
 have hnot:at' ls i ∉ ls.take i++ls.drop (i+1):=by
  have hnd:=h.nd
  rw [hdec,List.nodup_append]at hnd
  obtain⟨_,n2,n3⟩:=hnd
  rw [List.nodup_cons]at n2
  intro hm
  rw [List.mem_append]at hm
  rcases hm with hm|hm
  ·exact n3 _ hm _ (by simp) rfl
  ·exact n2.1 hm
 have key:decide (s∈ls.take i++ls.drop (i+1))=false∨(ls.take i++ls.drop (i+1)).any (fun y=>t.allowed.any (sN p t (ls.take i++ls.drop (i+1)) y))=true:=by
  by_cases e:i=0
  ·left
   refine decide_eq_false fun hm=> ?_
   have:=h.hd;rw [←e]at this
   rw [this]at hnot;exact hnot hm
  ·right
   obtain⟨f,x,f1,f2,f3⟩:=h.prev i (by omega) hi
   rw [List.any_eq_true]
   have hf:at' ls f∈ls.take i:=by
    have h1:f<(ls.take i).length:=by rw [List.length_take];omega
    have:at' (ls.take i) f=at' ls f:=by
     rw [dH h1,List.getElem_take,dH (by omega)]
    rw [←this];exact at_mem h1
   refine⟨at' ls f,List.mem_append_left _ hf, ?_⟩
   rw [List.any_eq_true]
   refine⟨x,f2, ?_⟩
   unfold sN
   rw [f3,decide_eq_false hnot]
   rfl
 unfold uJ
 rw [if_neg (by rw [wO hp hs ht];simp [h0]),if_neg (by omega)]
 cases(ls.take i++ls.drop (i+1)).any (wK p t)with
 |true=>rfl
 |false=>
  rw [cond_false]
  rcases key with k|k
  ·rw [k];rfl
  ·rw [k]
   cases decide (s∈ls.take i++ls.drop (i+1))<;>rfl
theorem Q7 {α:Type} [Inhabited α] {l:List α} {i:Nat} (hi:i≤l.length):nR l 0 i=l.take i:=by
 refine lM (by rw [lW,List.length_take];omega) fun j hj=> ?_
 rw [lW]at hj
 have h1:j<(l.take i).length:=by rw [List.length_take];omega
 rw [dH (l:=l.take i) h1,List.getElem_take,dH (by rw [lW];exact hj)]
 unfold nR
 rw [List.getElem_map,List.getElem_range,Nat.add_zero,dH (by omega)]
theorem WY (hst:iy t) (e:Int):aA (bQ p s t ([],ls,e)) FUEL 0=some (.brk ()):=by
 have hmost:=h.rc.most
 have hsm:=VP.small hp
 refine dL (body:=bQ p s t ([],ls,e)) (fun k:Nat=>(k:Int)) (min ls.length 30) _ (fuel_lt (by omega)) (fun i hi=> ?_) ?_
 ·have hi1:i<ls.length:=by omega
  unfold bQ
  simp only [Int.toNat_natCast]
  rw [r9 (by omega),decide_eq_true (show(i:Int)<30 by omega),zO (by rfl),av ⟨by omega,by omega,by omega⟩,wr (by omega),av ⟨by omega,by rw [lW];omega,by rw [lW];omega⟩,
   show((i:Int)+1).toNat=i+1 by omega,Q7 hp ht hs hmo h hn (by omega),CB hsm s hst,IV hp ht hs hmo h hn hi1,Option.bind_some,uQ (by rfl)]
  rfl
 ·unfold bQ
  simp only
  rw [uQ]
  by_cases c:ls.length≤30
  ·rw [Nat.min_eq_left c,decide_eq_false (show ¬ ((ls.length:Int)<(ls.length:Int)) by omega)];rfl
  ·rw [Nat.min_eq_right (by omega),decide_eq_false (show ¬ (((30:Nat):Int)<30) by omega)]
   cases decide (((30:Nat):Int)<(ls.length:Int))<;>rfl
end
theorem DF {p:aj} (s:State) (t:Task) (other:List Int) (hp:Small p) (hr:Ui t):jR p s t other=some true:=by
 unfold jR
 rw [Qv hr,Option.bind_some,Vi,Option.bind_some]
 cases hb:SA p t with
 |true=>rw [uQ (by rfl),Option.bind_some,uQ (by rfl),Option.bind_some,zO (by rfl),nV];rfl
 |false=>
  obtain⟨h6,h7⟩:=ML hb
  have hst:=h7.small
  obtain⟨w,hw⟩:=JN p h7
  rw [zO (by rfl),hw,Option.bind_some]
  cases w with
  |false=>rw [uQ (by rfl),Option.bind_some,zO (by rfl),nV];rfl
  |true=>
   by_cases hl:8<t.allowed.length∨20<other.length
   ·have hd:(bif (bif (bif false then true else(!true))then true else(decide (8<(t.allowed.length:Int))))then true else(decide (20<(other.length:Int))))=true:=by
     simp only [eH,Bool.not_true,Bool.or_self,Bool.false_or,Bool.or_eq_true,decide_eq_true_iff]
     rcases hl with hl|hl
     ·exact .inl (by omega)
     ·exact .inr (by omega)
    rw [hd,uQ (by rfl),Option.bind_some,zO (by rfl),nV];rfl
   ·have hd:(bif (bif (bif false then true else(!true))then true else(decide (8<(t.allowed.length:Int))))then true else(decide (20<(other.length:Int))))=false:=by
     rw [decide_eq_false (show ¬ (8:Int)<(t.allowed.length:Int) by omega),decide_eq_false (show ¬ (20:Int)<(other.length:Int) by omega)];rfl
    rw [hd,zO (by rfl),qH hp s hst,Option.bind_some]
    by_cases h:nT p s t=0
    ·obtain⟨h1,h2,h3,h4⟩:=jG h
     have hm:(1:Int)≤300∧(300:Int)≤20000:=by omega
     rw [uQ (by simp [h]),IL hp s hst,Option.bind_some]
     have good: ∀pr,Vv p t s pr→jP p s t 300=(pr,[],0)→(bif decide ((jP p s t 300).2.2=4)then
       (bif gB [((!decide (((jP p s t 300).1.length:Int)=0)),false)]then fo p s t (jP p s t 300).2.1 else some default).bind fun r_6=>
       bif (bif (!decide (((jP p s t 300).1.length:Int)=0))then true else(!decide (r_6=0)))then
       some false
       else
       Option.bind (aA (bQ p s t (jP p s t 300)) FUEL (0)) fun o=>match o with
       | .ret v=>some v
       | .brk _=>
       (eZ).bind fun r_8=>
       some r_8
       else
       bif (decide ((jP p s t 300).2.2=8))then
       (bif gB [((decide ((IntKind.wrap .i64 (((jP p s t 300).1.length:Int)+((jP p s t 300).2.1.length:Int)))=0)),true)]then eZ else some default).bind fun r_9=>
       some (bif (decide ((IntKind.wrap .i64 (((jP p s t 300).1.length:Int)+((jP p s t 300).2.1.length:Int)))=0))then r_9 else false)
       else
       (bW p s t (jP p s t 300).1).bind fun r_10=>
       (bif gB [((bif (bif (!decide ((jP p s t 300).2.2=0))then true else(!decide (r_10.2.2=0)))then true else(!decide (r_10.1=((jP p s t 300).1.length:Int)))),false)]then oh p r_10.2.1 t.goal else some default).bind fun r_11=>
       bif (bif (bif (bif (!decide ((jP p s t 300).2.2=0))then true else(!decide (r_10.2.2=0)))then true else(!decide (r_10.1=((jP p s t 300).1.length:Int))))then true else(!r_11))then
       some false
       else
       Option.bind (aA (cZ t (jP p s t 300)) FUEL (0)) fun o=>match o with
       | .ret v=>some v
       | .brk _=>
       Option.bind (aA (aN p t other t (jP p s t 300)) FUEL (s.closed,s.locked,s.badLink,s.on_,s.badSource,s.earthed,s.badBus,0,0)) fun o=>match o with
       | .ret v=>some v
       | .brk _=>
       (eZ).bind fun r_15=>
       some r_15)=some true:=by
      intro pr hbest hF
      rw [hF]
      obtain⟨v,hrun,hg⟩:=hbest.run
      have hlen:=hbest.len (by omega)
      have hvv:=(Jg h1 pr s v h2 h4 hrun).1
      have hL1:=YR h1 h3 hst hbest.sub (by omega) [] 0
      obtain⟨k,hk1,hk2⟩:=Qi h1 h3 hst h2 h4 (other:=other) (by omega) hbest [] 0 other.length 0 [] s (by omega) (by simp) (by simp) rfl
      have hL3:aA (aN p t other t (pr,[],0)) FUEL (s.closed,s.locked,s.badLink,s.on_,s.badSource,s.earthed,s.badBus,0,0)=some (.brk ()):=dO hk2 (by unfold FUEL;omega)
      revert hL1 hL3
      generalize aA (cZ t (pr,[],0)) FUEL 0=o1
      generalize aA (aN p t other t (pr,[],0)) FUEL (s.closed,s.locked,s.badLink,s.on_,s.badSource,s.earthed,s.badBus,0,0)=o3
      generalize aA (bQ p s t (pr,[],0)) FUEL 0=o0
      intro hL1 hL3
      subst hL1
      subst hL3
      rw [uQ (by rfl),uQ (by rfl),zo hp s hst,PU h (by omega) hrun,Option.bind_some]
      dsimp only
      rw [zO (by simp [gB]),all_eq h1 h3 hst hvv,hg,Option.bind_some,uQ (by simp),Option.bind_some]
      dsimp only
      rw [Option.bind_some,nV]
      rfl
     by_cases hmet:pW s t.goal=true
     ·have hF:jP p s t 300=([],[],0):=by
       unfold jP;rw [if_neg (by simp [h]),if_neg (by omega),if_pos hmet]
      exact good [] ⟨⟨s,rfl,hmet⟩,by simp,by simp,fun q u _ _ hq=>absurd hq (by simp)⟩ hF
     ·have hmet':pW s t.goal=false:=by simpa using hmet
      have hsr:=QW h1 h2 hm h4 hmet'
      have hou:=Qu h1 20002 0 [s] [(-1,⟨0,0⟩)] hsr (by simp) (by omega)
      have hF0:jP p s t 300=match Lj p t 300 20002 0 [s] [(-1,⟨0,0⟩)]with
        | .go ls _=>([],ls,4)
        | .large=>([],[],8)
        | .found ls fb=>(path fb (ls.length - 1),[],0):=by
       unfold jP
       rw [if_neg (by simp [h]),if_neg (by omega),if_neg hmet]<;>(generalize Lj p t 300 20002 0 [s] [(-1,⟨0,0⟩)]=o;cases o<;>rfl)
      revert hou hF0
      cases Lj p t 300 20002 0 [s] [(-1,⟨0,0⟩)]with
      |go ls fb=>
       intro hou hF
       obtain⟨n,hsr2,hn⟩:=hou
       have hz:=J5 h1 h3 h2 (by omega) hsr2 hn
       have hL0:=WY h1 h3 h2 (by omega) hsr2 hn hst 4
       simp only at hF
       rw [hF]
       revert hL0
       generalize aA (bQ p s t ([],ls,4)) FUEL 0=o0
       generalize aA (cZ t ([],ls,4)) FUEL 0=o1
       generalize aA (aN p t other t ([],ls,4)) FUEL (s.closed,s.locked,s.badLink,s.on_,s.badSource,s.earthed,s.badBus,0,0)=o3
       intro hL0
       subst hL0
       rw [zO (by rfl),zO (by rfl),CB hp s hst,hz,Option.bind_some,uQ (by rfl),Option.bind_some]
       dsimp only
       rw [nV]
       rfl
      |large=>
       intro hou hF
       simp only at hF
       rw [hF]
       generalize aA (bQ p s t ([],[],8)) FUEL 0=o0
       generalize aA (cZ t ([],[],8)) FUEL 0=o1
       generalize aA (aN p t other t ([],[],8)) FUEL (s.closed,s.locked,s.badLink,s.on_,s.badSource,s.earthed,s.badBus,0,0)=o3
       rw [uQ (by rfl),zO (by rfl),zO (by rfl),nV]
       rfl
      |found ls fb=>
       intro hou hF
       simp only at hF
       exact good _ (RZ h1 h2 hou) hF
    ·rw [zO (by simp [h]),nV];rfl
end Sg
