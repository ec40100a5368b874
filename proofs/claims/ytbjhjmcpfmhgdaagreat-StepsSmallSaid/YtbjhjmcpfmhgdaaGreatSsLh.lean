import Derived.Test.YtbjhjmcpfmhgdaaGreatSsLg
import Derived.KernelRfl
set_option linter.all false
namespace Sg
open Go
noncomputable def Ey (p:au) (t:Task) (y:State):Bool:= !decide (xN p y t=0)||Er y t.bk
noncomputable def H8 (p:au) (t:Task) (l:List State) (y:State) (x:af):Bool:=decide ((nextR p y t x).2=0) && !decide ((nextR p y t x).1∈l)
noncomputable def JX (p:au) (s:State) (t:Task) (l:List State):Int:=
 if xN p s t≠0 then xN p s t else if 20000<l.length then 2 else bif l.any (Ey p t)then 7 else bif !decide (s∈l)then 7 else bif l.any (fun y=>t.ba.any (H8 p t l y))then 7 else 0
theorem NN {p:au} {t:Task} {y:State} (h:Ey p t y=false):xN p y t=0/\Er y t.bk=false:=by
 unfold Ey at h
 rw [eK,Bool.not_eq_false',dt]at h
 exact h
section
variable {p:au} (hp:VP p) {t:Task} (ht:oW p t=true) (hst:mH t) {l:List State} (hl:l.length<=20000)
include hp ht hst hl
theorem XG: ∀(n i:Nat) (x:Search),i+n=l.length->x.l.length<=i->Kn p (l.take i) x.bi->
  ∃m,m<=n+1/\(((l.drop i).any (Ey p t)=true/\aH (dI p t l) m (x.l,x.bi,(i:Int))=some (.ret 7))\/
   ((l.drop i).any (Ey p t)=false/\ ∃x':Search,Kn p l x'.bi/\aH (dI p t l) m (x.l,x.bi,(i:Int))=some (.brk (x'.l,x'.bi))))
 |0,i,x,hi,hx,hk=>by
  refine⟨1,by omega, .inr ⟨?_,x, ?_, ?_⟩⟩
  ·rw [List.drop_eq_nil_of_le (by omega)];rfl
  ·rw [List.take_of_length_le (by omega)]at hk;exact hk
  ·have:decide ((i:Int)<(l.length:Int))=false:=b_ (by omega)
   rw [aR]
   unfold dI
   simp only [this,bv]
 |n+1,i,x,hi,hx,hk=>by
  have hlt:i<l.length:=by omega
  obtain⟨_,_,_,⟨gl,gx⟩⟩:=j3 ht
  have hdrop:(l.drop i).any (Ey p t)=(Ey p t (at' l i)||(l.drop (i+1)).any (Ey p t)):=by
   rw [List.drop_eq_getElem_cons hlt,List.any_cons,fT hlt]
  have htk:l.take (i+1)=l.take i++[at' l i]:=pQ hlt
  by_cases h0:xN p (at' l i) t=0
  ·obtain⟨_,hv,_,_⟩:=xk h0
   cases hm:Er (at' l i) t.bk with
   |true=>
    refine⟨1,by omega, .inl ⟨?_, ?_⟩⟩
    ·rw [hdrop];unfold Ey;rw [hm];simp
    ·rw [aR]
     unfold dI
     simp only [bx]
     rw [Ag (by omega),bu,av (by omega),pz (VP.small hp) _ hst,h0,bt]
     simp only [decide_true,cE,gB,cR,show(false==false)=true from rfl,bu,bv]
     rw [JU hv (by omega) gx,hm]
     rfl
   |false=>
    have hb:Ey p t (at' l i)=false:=by unfold Ey;rw [hm,h0];simp
    have hadd:=add_eq (x:=x) hk hv (-1) ⟨0,0⟩ (by omega)
    obtain⟨x2,hx2,hx2l,hk2⟩: ∃x2:Search,dY (at' l i) (-1) ⟨0,0⟩ x=some (!decide (at' l i∈l.take i),x2)/\x2.l.length<=i+1/\Kn p (l.take (i+1)) x2.bi:=by
     by_cases hin:at' l i∈l.take i
     ·refine⟨x, ?_,by omega, ?_⟩
      ·rw [hadd,bz hin];rfl
      ·intro u hu
       rw [hk u hu,htk,cA,cG]
       exact⟨fun q=> .inl q,fun q=>q.elim id fun e=>e ▸ hin⟩
     ·refine⟨⟨x.l++[⟨at' l i, -1,⟨0,0⟩⟩],fH (sV 280) (nP (at' l i)) true x.bi⟩, ?_, ?_, ?_⟩
      ·rw [hadd,b_ hin];rfl
      ·simp;omega
      ·rw [htk];exact hk.add hp hv
    obtain⟨m,hm1,hm2⟩:=XG n (i+1) x2 (by omega) hx2l hk2
    have hstep:dI p t l (x.l,x.bi,(i:Int))=some (.next (x2.l,x2.bi,((i+1:Nat):Int))):=by
     unfold dI
     simp only [bx]
     rw [Ag (by omega),bu,av (by omega),pz (VP.small hp) _ hst,h0,bt]
     simp only [decide_true,cE,gB,cR,show(false==false)=true from rfl,bu,bv]
     rw [JU hv (by omega) gx,hm,bt,bv,show(⟨x.l,x.bi⟩:Search)=x from rfl,hx2,bt,wr (by omega)]
     rfl
    refine⟨m+1,by omega, ?_⟩
    rw [aR,hstep,hdrop,hb,cS]
    exact hm2
  ·refine⟨1,by omega, .inl ⟨?_, ?_⟩⟩
   ·rw [hdrop];unfold Ey;rw [b_ h0];simp
   ·rw [aR]
    unfold dI
    simp only [bx]
    rw [Ag (by omega),bu,av (by omega),pz (VP.small hp) _ hst,bt]
    simp only [b_ h0,cF,gB,cR,show(true==false)=false from rfl,bu,bv,bt]
theorem aaj {kn:List (List Bool × Bool)} (hk:Kn p l kn) (hv: ∀y∈l,VS p y):aH (l8 p t l kn) FUEL 0=some (bif l.any (fun y=>t.ba.any (H8 p t l y))then .ret 7 else .brk ()):=by
 obtain⟨_,_,⟨al,ax⟩,_⟩:=j3 ht
 rw [<-qB l fun y=>t.ba.any (H8 p t l y)]
 refine fw l.length (fun i=>t.ba.any (H8 p t l (at' l i))) 7 (by omega) (fun i hi=> ?_) (by unfold l8;simp)
 have hvi:=hv _ (at_mem hi)
 have e2:aH (lV p t l kn (i:Int)) FUEL 0=some (bif t.ba.any (H8 p t l (at' l i))then .ret (.done (.ret 7))else .brk ()):=by
  rw [<-qB t.ba (H8 p t l (at' l i))]
  refine fw t.ba.length (fun k=>H8 p t l (at' l i) (at' t.ba k)) (bO.done (Ex.ret (7:Int)):bO Int (Ex Unit Int)) (by omega) (fun k hk'=> ?_) (by unfold lV;simp)
  unfold lV H8
  simp only [bx]
  rw [Ag (by omega),bu,av (by omega),Kc hp hvi ht,bt,wr (by omega)]
  by_cases h0:(nextR p (at' l i) t (at' t.ba k)).2=0
  ·have hn:=Ff hp hvi h0
   have hvn:VS p (nextR p (at' l i) t (at' t.ba k)).1:=by rw [hn.2.1];exact hn.2.2.1
   rw [h0]
   simp only [decide_true,gB,cR,beq_self_eq_true,bu,cQ]
   rw [FQ,bt,hk.has hvn]
   exact gY _ _ _
  ·simp only [b_ h0,gB,cR,show(false==true)=false from rfl,bv,bt,Bool.false_and]
 unfold l8
 rw [Ag (by omega),bu,av (by omega),e2,wr (by omega)]
 cases t.ba.any (H8 p t l (at' l i))<;>rfl
end
theorem QH {p:au} (hp:Small p) (s:State) {t:Task} (hst:mH t) (l:List State):fF p s t l=some (JX p s t l):=by
 unfold fF JX
 rw [pz hp s hst,bt]
 by_cases h:xN p s t=0
 ·obtain⟨h1,h2,h3,h4⟩:=xk h
  rw [ci (by simp [h]),h]
  simp only [decide_true,cE,bv]
  by_cases hl:20000<l.length
  ·rw [cj hl,bz (show(20000:Int)<(l.length:Int) by omega),bu]
  ·rw [ci hl,b_ (show ¬ (20000:Int)<(l.length:Int) by omega),bv]
   obtain⟨m,hm1,hm2⟩:=XG h1 h3 hst (l:=l) (by omega) l.length 0 ⟨[],[]⟩ (by omega) (by simp) (by rw [List.take_zero];exact Kn.nil)
   rw [List.drop_zero]at hm2
   rcases hm2 with⟨ha,hr⟩|⟨ha,x',hk,hr⟩
   ·rw [ha,show aH (dI p t l) FUEL ([],[],0)=_ from jC hr (by unfold FUEL;omega)];rfl
   ·rw [ha,show aH (dI p t l) FUEL ([],[],0)=_ from jC hr (by unfold FUEL;omega)]
    simp only [bt,bv]
    rw [dd]at ha
    have hv: ∀y∈l,VS p y:=fun y hy=>(xk (NN (by simpa using ha y hy)).1).2.1
    rw [FQ,bt,hk.has h2]
    cases decide (s∈l)with
    |false=>rfl
    |true=>
     simp only [cE,bv]
     rw [aaj h1 h3 hst (by omega) hk hv]
     cases l.any (fun y=>t.ba.any (H8 p t l y))<;>rfl
 ·rw [cj h];simp [h]
def wD:au:=⟨3,[⟨0,1,500,0,20⟩],[⟨0,1,3,400,10,[]⟩,⟨1,2,2,400,10,[]⟩],[⟨⟨2, -1⟩,100,1⟩]⟩
def xu:State:=⟨[true,true],List.replicate 2 false,List.replicate 2 false,[true],List.replicate 1 false,List.replicate 3 false,List.replicate 3 false⟩
def exT:Task:=⟨[],[],[⟨1,0⟩,⟨2,0⟩,⟨1,1⟩,⟨2,1⟩],[⟨1,1⟩]⟩
def exU:Task:=⟨[0],[],[⟨1,0⟩,⟨2,0⟩,⟨1,1⟩,⟨2,1⟩],[⟨1,1⟩]⟩
theorem iZ:Small wD:=⟨by decide,by decide,by decide,fun x hx=>by
 simp only [wD,eE,List.not_mem_nil,or_false]at hx
 rcases hx with rfl|rfl<;>decide⟩
theorem QK:mH exT:=⟨by decide,by decide,by decide,by decide⟩
theorem PX:mH exU:=⟨by decide,by decide,by decide,by decide⟩
theorem Xp:kT=some (wD,xu):=by kernel_rfl
theorem ex4:gX wD xu ⟨1,1⟩=some (qF,44):=by kernel_rfl
def exR:State:=⟨[false,false],List.replicate 2 false,List.replicate 2 false,[true],List.replicate 1 false,List.replicate 3 false,List.replicate 3 false⟩
def RP:State:=⟨[false,false],[false,true],List.replicate 2 false,[true],List.replicate 1 false,[false,false,true],List.replicate 3 false⟩
theorem ex6:gX wD RP ⟨2,1⟩=some (qF,43):=by kernel_rfl
theorem ex8:d9 wD RP ⟨[],[2],[],[]⟩=some 0:=by kernel_rfl
theorem ex9:rD [⟨1,0⟩,⟨1,1⟩] [⟨1,0⟩,⟨1,1⟩]=some true:=by kernel_rfl
theorem acz:cO exR.am [false,false]=some true:=by kernel_rfl
theorem KO {α:Type} {c:Bool} {a b:α} (h:c=false):(bif c then a else b)=b:=by rw [h];rfl
theorem Oh {α:Type} {c:Bool} {a b:α} (h:c=true):(bif c then a else b)=a:=by rw [h];rfl
theorem Ma:mH ⟨[],[],[],[]⟩:=⟨by decide,by decide,by decide,by decide⟩
theorem Lp:mH ⟨[],[2],[],[]⟩:=⟨by decide,by decide,by decide,by decide⟩
theorem acV:eY wD xu ⟨1,1⟩=some (qF,44):=(SF iZ xu _).trans ((Gd iZ xu _).symm.trans ex4)
theorem acs:eY wD RP ⟨2,1⟩=some (qF,43):=(SF iZ RP _).trans ((Gd iZ RP _).symm.trans ex6)
theorem acN:bG wD RP ⟨[],[2],[],[]⟩=some 0:=(pz iZ RP Lp).trans ((Ec iZ RP Lp).symm.trans ex8)
theorem HV (l:List Int) (h:l.length<=9223372036854775807):gJ l l=some true:=by
 unfold gJ
 rw [bz rfl]
 simp only [cE,bv]
 have key:aH (lN l l) FUEL 0=some (.brk ()):= ?_
 ·rw [key];rfl
 refine TW l h (fun i hi=> ?_) (by unfold lN;simp)
 unfold lN
 simp only [bx]
 rw [Ag (by omega),bu,av (by omega),wr (by omega)]
 simp
structure JE (t:Task):Prop where
 f:t.fed.length<=60
 c:t.bj.length<=60
 a:t.ba.length<=60
 g:t.bk.length<=60
theorem JE.small {t:Task} (h:JE t):mH t:=by
 obtain⟨h1,h2,h3,h4⟩:=h
 exact⟨by omega,by omega,by omega,by omega⟩
theorem Ej (l:List Int) (h:l.length<=60):mM l=some l:=by
 unfold mM;rw [av (by omega)]
theorem CY (l:List af) (h:l.length<=1000):kP l=some l:=by
 unfold kP;rw [av (by omega)]
theorem XY {t:Task} (h:JE t):fq t=some t:=by
 obtain⟨h1,h2,h3,h4⟩:=h
 unfold fq
 rw [Ej _ h1,Ej _ h2,CY _ (by omega),CY _ (by omega)]
 rfl
theorem FZ:Pq qF:=⟨by decide,by decide,by decide,by decide,by decide,by decide,by decide⟩
theorem TR {p:au} (s:State) (x:af):Pq (YE p s x).1:=by
 unfold YE
 by_cases h:jR p s=0
 ·rw [ci (by simp [h])]
  obtain⟨h1,h2⟩:=fe.mp h
  by_cases h0:RV p s x=0
  ·unfold TQ;rw [cj h0];exact VS.room h1 (VS.aft h1 h2 (Gs h0).1)
  ·unfold TQ;rw [ci h0];exact FZ
 ·rw [cj h];exact FZ
def stB (a b:State):Bool:=decide (a.am=b.am) && decide (a.ar=b.ar) && decide (a.ap=b.ap) && decide (a.on_=b.on_) && decide (a.ae=b.ae) && decide (a.ag=b.ag) && decide (a.aq=b.aq)
theorem Pp {a b:State}:stB a b=true↔a=b:=by
 unfold stB
 rw [Qn]
 simp only [ce,dt,and_assoc]
def nxC (p:au) (s:State) (t:Task) (x:af):State × Int:=(kM p s t x).getD (qF,1)
def Zl (p:au) (t:Task) (most:Int) (now:State) (i:Nat):Nat->Nat->List State->List (Int × af)->Out
 |0,_,ls,fb=> .go ls fb
 |n+1,k,ls,fb=>
  match nxC p now t (at' t.ba k)with
  |(y,e)=>
   bif !decide (e=0)then Zl p t most now i n (k+1) ls fb
   else bif ls.any (stB y)then Zl p t most now i n (k+1) ls fb
   else bif decide (most<((ls++[y]).length:Int))then .large
   else bif Er y t.bk then .found (ls++[y]) (fb++[((i:Int),at' t.ba k)])
   else Zl p t most now i n (k+1) (ls++[y]) (fb++[((i:Int),at' t.ba k)])
def ouC (p:au) (t:Task) (most:Int):Nat->Nat->List State->List (Int × af)->Out
 |0,_,ls,fb=> .go ls fb
 |F+1,i,ls,fb=>bif decide (i<ls.length)then(match Zl p t most (at' ls i) i t.ba.length 0 ls fb with| .go ls' fb'=>ouC p t most F (i+1) ls' fb'| .large=> .large| .found ls' fb'=> .found ls' fb')else .go ls fb
section
variable {p:au} (hp:VP p) {t:Task} (ht:oW p t=true) {most:Int}
include hp ht
theorem Pb {y:State} {ls:List State}:(ls.any (stB y)=true)↔y∈ls:=by
 rw [db]
 constructor
 ·rintro ⟨u,hu,h⟩;rw [Pp.1 h];exact hu
 ·intro h;exact⟨y,h,Pp.2 rfl⟩
theorem JY {now:State} (hn:VS p now) (i:Nat): ∀(n k:Nat) (ls:List State) (fb:List (Int × af)),Nh p t most now i n k ls fb=Zl p t most now i n k ls fb
 |0,_,_,_=>rfl
 |n+1,k,ls,fb=>by
  have e:nxC p now t (at' t.ba k)=nextR p now t (at' t.ba k):=by unfold nxC;rw [Kc hp hn ht];rfl
  unfold Nh Zl
  rw [e]
  by_cases h1:(nextR p now t (at' t.ba k)).2=0
  ·rw [ci (by simp [h1])]
   simp only [h1,decide_true,cE,bv]
   by_cases h2:(nextR p now t (at' t.ba k)).1∈ls
   ·rw [cj h2,(Pb hp ht).2 h2,bu];exact JY hn i n (k+1) ls fb
   ·rw [ci h2,Bool.eq_false_iff.2 fun h=>h2 ((Pb hp ht).1 h),bv]
    by_cases h3:most<((ls++[(nextR p now t (at' t.ba k)).1]).length:Int)
    ·rw [cj h3,bz h3,bu]
    ·rw [ci h3,b_ h3,bv]
     by_cases h4:Er (nextR p now t (at' t.ba k)).1 t.bk=true
     ·rw [cj h4,h4,bu]
     ·rw [ci h4,Bool.eq_false_iff.2 h4,bv]
      exact JY hn i n (k+1) _ _
  ·rw [cj h1]
   simp only [h1,decide_false,cF,bu]
   exact JY hn i n (k+1) ls fb
theorem SE (hm:1<=most/\most<=20000): ∀(F i:Nat) (ls:List State) (fb:List (Int × af)),Rc p most ls fb->UI p t most F i ls fb=ouC p t most F i ls fb
 |0,_,_,_,_=>rfl
 |F+1,i,ls,fb,h=>by
  unfold UI ouC
  by_cases hlt:i<ls.length
  ·rw [cj hlt,bz hlt,bu,<-JY hp ht (h.vs _ (at_mem hlt)) i]
   have hok:=Dj hp ht hm (h.vs _ (at_mem hlt)) i t.ba.length 0 ls fb h hlt
   revert hok
   cases Nh p t most (at' ls i) i t.ba.length 0 ls fb with
   |go ls' fb'=>intro hok;exact SE hm F (i+1) ls' fb' hok.1
   |large=>intro _;rfl
   |found ls' fb'=>intro _;rfl
  ·rw [ci hlt,b_ hlt,bv]
end
def acQ:Out->List af × List State × Int
 | .go ls _=>([],ls,4)
 | .large=>([],[],8)
 | .found ls fb=>(path fb (ls.length - 1),[],0)
theorem EK {p:au} (hp:Small p) {s:State} {t:Task} (hst:mH t) {most:Int} (h0:bG p s t=some 0) (hm:1<=most/\most<=20000) (h1:Er s t.bk=false) {r:Out} (h2:ouC p t most 20002 0 [s] [(-1,⟨0,0⟩)]=r):
  bL p s t most=some (acQ r):=by
 subst h2
 rw [Vx hp s hst most]
 have hl:xN p s t=0:=by rw [pz hp s hst]at h0;exact Option.some.inj h0
 obtain⟨g1,g2,g3,g4⟩:=xk hl
 unfold R7
 rw [ci (by simp [hl]),ci (by omega),ci (by simp [h1]),SE g1 g3 hm 20002 0 _ _ (Lr g2 hm _)]
 cases ouC p t most 20002 0 [s] [(-1,⟨0,0⟩)]<;>rfl
def exO:State:=⟨[false,true],List.replicate 2 false,List.replicate 2 false,[true],List.replicate 1 false,List.replicate 3 false,List.replicate 3 false⟩
def wM (n:Nat):List af:=match n with|0=>[]|n+1=>wM n++[⟨1,0⟩,⟨2,0⟩]
def exV:Task:=⟨[],[],vN (wM 128) 0 25,[]⟩
def exW:Task:=⟨[],[],vN (wM 128) 0 24,[⟨3,0⟩]⟩
theorem IK:mH exW:=⟨by decide,by decide,by show(vN (wM 128) 0 24).length<=_;rw [mF];decide,by decide⟩
theorem v1:eT wD xu ⟨[],[],[],[]⟩ (wM 128)=some (256,xu,0):=by kernel_rfl
theorem v2:eT wD xu ⟨[],[],[],[]⟩ (wM 128++[⟨1,0⟩])=some (0,qF,2):=by kernel_rfl
theorem v3:bL wD xu exV 5=some ([],[],1):=by kernel_rfl
theorem lW:bG wD xu exW=some 0:=by kernel_rfl
theorem lT:bG wD xu exT=some 0:=by kernel_rfl
theorem lU:bG wD xu exU=some 0:=by kernel_rfl
theorem v4:bL wD xu exW 1=some ([],[],8):=EK (r:= .large) iZ IK lW (by decide) (by kernel_rfl) (by kernel_rfl)
theorem v5:bL wD xu exW 2=some ([],[xu,exO],4):=EK (r:= .go [xu,exO] [(-1,⟨0,0⟩),(0,⟨1,0⟩)]) iZ IK lW (by decide) (by kernel_rfl) (by kernel_rfl)
theorem acM:bL wD xu exT 100=some ([⟨1,0⟩,⟨1,1⟩],[],0):=EK (r:= .found [xu,exO,exR] [(-1,⟨0,0⟩),(0,⟨1,0⟩),(1,⟨1,1⟩)]) iZ QK lT (by decide) (by kernel_rfl) (by kernel_rfl)
theorem acJ:bL wD xu exU 100=some ([],[xu],4):=EK (r:= .go [xu] [(-1,⟨0,0⟩)]) iZ PX lU (by decide) (by kernel_rfl) (by kernel_rfl)
theorem acX:fF wD xu exU [xu]=some 0:=by kernel_rfl
theorem acY:eT wD xu ⟨[],[],[],[]⟩ [⟨1,0⟩,⟨1,1⟩]=some (2,exR,0):=by kernel_rfl
theorem ac1:eT wD RP ⟨[],[2],[],[]⟩ [⟨6,1⟩]=some (0,qF,45):=by kernel_rfl
theorem Oy:nW=some true:=by
 unfold nW
 rw [Xp,bt]
 dsimp only
 rw [show bL wD xu (⟨([]:List Int),([]:List Int),[(⟨1,0⟩:af),(⟨2,0⟩:af),(⟨1,1⟩:af),(⟨2,1⟩:af)],[(⟨1,1⟩:af)]⟩:Task) 100=_ from acM,bt,acV,bt,KO (by rfl),ex9,bt,KO (by rfl),acY,bt,KO (by rfl),acz,bt,KO (by rfl),
  show bL wD xu (⟨[0],([]:List Int),[(⟨1,0⟩:af),(⟨2,0⟩:af),(⟨1,1⟩:af),(⟨2,1⟩:af)],[(⟨1,1⟩:af)]⟩:Task) 100=_ from acJ,bt,KO (by rfl),
  show fF wD xu (⟨[0],([]:List Int),[(⟨1,0⟩:af),(⟨2,0⟩:af),(⟨1,1⟩:af),(⟨2,1⟩:af)],[(⟨1,1⟩:af)]⟩:Task) [xu]=_ from acX,bt,KO (by rfl),av (by decide)]
 change Option.bind (eY wD RP ⟨2,1⟩) _=_
 rw [acs,bt]
 change Option.bind (eT wD RP ⟨[],[2],[],[]⟩ [⟨6,1⟩]) _=_
 rw [ac1,bt,Oh (by rfl)]
 change Option.bind (bG wD RP ⟨[],[2],[],[]⟩) _=_
 rw [acN,bt]
 rfl
theorem c1:fF wD xu ⟨[],[],[],[]⟩ (List.replicate 20001 qF)=some 2:=by
 rw [QH iZ xu Ma]
 unfold JX
 have h:xN wD xu ⟨[],[],[],[]⟩=0:=by
  have e:bG wD xu ⟨[],[],[],[]⟩=some 0:=by kernel_rfl
  rw [pz iZ xu Ma]at e
  exact Option.some.inj e
 rw [ci (by simp [h]),cj (by rw [d7];decide)]
theorem br {p:au} {s:State} {x:af} {t:Task} (hp:Small p) (ht:JE t):
  ((fq t).bind fun r_1=>(gJ t.fed r_1.fed).bind fun r_2=>(bif gB [(!r_2,false)]then fq t else some default).bind fun r_3=>
   (bif gB [(!r_2,false)]then bG p s r_3 else some default).bind fun r_4=>(bif gB [(!r_2,false)]then d9 p s t else some default).bind fun r_5=>
   bif (bif (!r_2)then true else(!decide (r_4=r_5)))then some (.ret (.done (.ret false)))
   else(eY p s x).bind fun r_6=>(gX p s x).bind fun r_7=>(bif gB [(!decide (r_6.2=r_7.2),false)]then fI r_6.1 r_7.1 else some default).bind fun r_8=>
    bif (bif (!decide (r_6.2=r_7.2))then true else(!r_8))then some (.ret (.done (.ret false)))else some (.brk ()))=(some (.brk ()):Option (Ex Unit (bO Int (Ex Unit Bool)))):=by
 rw [XY ht,bt,HV _ (by have:=ht.f;omega),bt,Oh (by rfl),bt,Oh (by rfl),Oh (by rfl),pz hp s ht.small,Ec hp s ht.small,bt,bt]
 rw [KO (by simp),SF hp,Gd hp,bt,bt,Oh (by simp [gB]),GR _ (TR s x),bt,KO (by simp)]
theorem Uc {α β:Type} {o:Option (Ex Unit α)} {f:Ex Unit α->Option β} (h:o=some (.brk ())):Option.bind o f=f (.brk ()):=by rw [h];rfl
theorem DJ {α:Type} {c:Bool} {a b r:α} (h1:a=r) (h2:b=r):(bif c then a else b)=r:=by cases c;exact h2;exact h1
theorem xD:Small ⟨4,wD.aa++[⟨3,2,5,1,10⟩],wD.ac++[⟨2,3,1,5,10,[]⟩],wD.a_⟩:=⟨by decide,by decide,by decide,fun x hx=>by
 simp only [wD,ec,c9,eE,List.not_mem_nil,or_false]at hx
 rcases hx with rfl|rfl|rfl<;>decide⟩
theorem YD:aH (fO (wD,xu)) FUEL 0=some (.brk ()):=by
 refine dV (body:=fO (wD,xu)) (fun i=>(i:Int)) 4096 _ (fuel_lt (by omega)) (fun i hi=> ?_) (by unfold fO;rfl)
 unfold fO
 rw [Ag (by omega),bu]
 refine(Uc ?_).trans ?_
 ·rw [av (by decide)]
  refine DJ ?_ (DJ ?_ (DJ ?_ ?_))
  ·rw [av (by decide)];exact br xD ⟨by decide,by decide,by decide,by decide⟩
  ·rw [av (by decide)];exact br xD ⟨by decide,by decide,by decide,by decide⟩
  ·rw [av (by decide)];exact br xD ⟨by decide,by decide,by decide,by decide⟩
  ·rw [av (by decide)];exact br xD ⟨by decide,by decide,by decide,by decide⟩
 ·show some (bO.next (IntKind.wrap .i64 ((i:Int)+1)))=_
  rw [wr (by omega)];rfl
theorem sM: ∀n,(wM n).length=2*n
 |0=>rfl
 |n+1=>by unfold wM;rw [cd,sM n];simp only [c_,List.length_nil];omega
theorem Zg:aH fP FUEL ([],0)=some (.brk (wM 128)):=by
 refine dV (body:=fP) (fun i=>(wM i,(i:Int))) 128 _ (fuel_lt (by omega)) (fun i hi=> ?_) (by unfold fP;rfl)
 unfold fP
 simp only
 rw [Ag (by omega),bu,av (by rw [sM];simp only [c_,List.length_nil];omega),wr (by omega)]
 rfl
theorem EA:kL=some true:=by
 unfold kL jv
 rw [Xp,bt,av (by decide),av (by decide)]
 rw [YD,bt]
 change Option.bind (some (wD,xu)) _=_
 rw [bt]
 rw [Zg,bt]
 dsimp only
 rw [v1,bt,v2,bt,av (by rw [sM];simp only [c_,List.length_nil];omega)]
 rw [show bL wD xu (⟨([]:List Int),([]:List Int),vN (wM 128) 0 25,([]:List af)⟩:Task) 5=_ from v3,bt,av (by rw [sM];omega)]
 rw [show bL wD xu (⟨([]:List Int),([]:List Int),vN (wM 128) 0 24,[(⟨3,0⟩:af)]⟩:Task) 1=_ from v4,bt,av (by rw [sM];omega)]
 rw [show bL wD xu (⟨([]:List Int),([]:List Int),vN (wM 128) 0 24,[(⟨3,0⟩:af)]⟩:Task) 2=_ from v5,bt,av (by rw [sM];omega)]
 rw [Oh (by rfl)]
 rw [show fF wD xu (⟨([]:List Int),([]:List Int),([]:List af),([]:List af)⟩:Task) (List.replicate 20001 ((⟨([]:List Bool),([]:List Bool),([]:List Bool),([]:List Bool),([]:List Bool),([]:List Bool),([]:List Bool)⟩:State):State))=_ from c1,bt,Oh (by rfl),Oy,bt,av ⟨fun _=>by decide,fun _=>by decide,fun _=>by decide⟩]
 rfl
end Sg
