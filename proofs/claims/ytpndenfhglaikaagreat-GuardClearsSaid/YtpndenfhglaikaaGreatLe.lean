import Derived.Test.YtpndenfhglaikaaGreatLd
set_option linter.all false
namespace Sg
open Go
theorem zB {α:Type} [Inhabited α] {l m:List α} {j:Nat} (h:j<l.length):at' (l++m) j=at' l j:=by
 rw [kR (by rw [List.length_append];omega),kR h,List.getElem_append_left]
theorem BO {α:Type} [Inhabited α] (l:List α) (x:α):at' (l++[x]) l.length=x:=by
 rw [kR (by simp)];simp
section
variable {p:ah} {s:State} (hp:VP p) (hs:VS p s)
include hp hs
theorem YJ {i:Nat} (hi:i<p.links.length):dB p.links s.closed s.badLink s.badBus ((Bw p s i).1,(i:Int))=some (.next ((Bw p s (i+1)).1,((i+1:Nat):Int))):=by
 have hl:=hp.lnk i hi
 have ha:=hl.a;have hb:=hl.b;have h1:=hs.closed;have h2:=hs.badLink;have h3:=hs.badBus;have hll:=hp.ll
 have hd:decide ((i:Int)<(p.links.length:Int))=true:=decide_eq_true (by omega)
 have hcb:(bif (bif (bif (at' s.closed i)then(!(at' s.badLink i))else false)then(!(at' s.badBus (((at' p.links i).a).toNat)))else false)then(!(at' s.badBus (((at' p.links i).b).toNat)))else false)=fM p s i:=by
  unfold fM
  cases at' s.closed i<;>cases at' s.badLink i<;>cases at' s.badBus (at' p.links i).a.toNat<;>cases at' s.badBus (at' p.links i).b.toNat<;>rfl
 unfold dB
 simp only [Int.toNat_natCast]
 rw [hd,cond_true,ai (by omega),hcb]
 cases hc:fM p s i with
 |true=>
  rw [cond_true]
  unfold kL
  rw [join_eq hp hi hc]
  simp only [Option.bind_some]
  rw [ai ⟨by omega,fun _=>by omega,fun _=>by omega,fun _=>by omega⟩,wr (by omega)]
  rfl
 |false=>
  rw [cond_false,ai ⟨by omega,fun _=>by omega,fun _=>by omega,fun _=>by omega⟩,wr (by omega)]
  have:Bw p s (i+1)=Bw p s i:=by rw [Bw];simp [hc]
  rw [this];rfl
theorem OI:kJ p.buses p.sources p.links p.racks s.closed s.locked s.badLink s.on_ s.badSource s.earthed s.badBus ⟨[]⟩=some ⟨(Bw p s p.links.length).1⟩:=by
 have hll:=hp.ll
 have key:ay (dB p.links s.closed s.badLink s.badBus) FUEL ((Bw p s 0).1,((0:Nat):Int))=some (.brk (Bw p s p.links.length).1):=by
  refine aY (fun i=>((Bw p s i).1,(i:Int))) p.links.length _ (fuel_lt (by omega)) (fun i hi=>YJ hp hs hi) ?_
  unfold dB
  simp
 show(ay (dB p.links s.closed s.badLink s.badBus) FUEL ((Bw p s 0).1,((0:Nat):Int))).bind _=_
 rw [key];rfl
omit hs
structure II (p:ah) (s:State) (t n:Nat) (out:List aG) (m:List (Int × Int)):Prop where
 ix: ∀h i,bQ gI h m=some i→0≤i∧i<(out.length:Int)
 inj: ∀h h' i,bQ gI h m=some i→bQ gI h' m=some i→h=h'
 cov: ∀b:Nat,b<t→at' s.badBus b=false→ ∃j:Nat,bQ gI (pI p s b) m=some (j:Int)∧(b:Int)∈(at' out j).buses
 mem: ∀j,j<out.length→ ∀x∈(at' out j).buses,∃b:Nat,x=b∧b<t∧at' s.badBus b=false∧bQ gI (pI p s b) m=some (j:Int)
 src: ∀j,j<out.length→(at' out j).sources=[]
 len:out.length≤n
 bl: ∀j,j<out.length→(at' out j).buses.length≤t
omit hp
theorem II.fresh {t n:Nat} {out:List aG} {m:List (Int × Int)} {h0:Int} (g:II p s t n out m) (hn:bQ gI h0 m=none):II p s t (n+1) (out++[⟨[],[]⟩]) (jH gI h0 (out.length:Int) m):=by
 have old: ∀h i,h≠h0→bQ gI h (jH gI h0 (out.length:Int) m)=some i→bQ gI h m=some i:=fun h i e q=>by rwa [kM e]at q
 refine⟨fun h i q=> ?_,fun h h' i q q'=> ?_,fun b hb hbad=> ?_,fun j hj x hx=> ?_,fun j hj=> ?_, ?_,fun j hj=> ?_⟩
 ·rw [List.length_append]
  by_cases e:h=h0
  ·subst e;rw [jU]at q;cases q;simp;omega
  ·have:=g.ix h i (old h i e q);simp;omega
 ·by_cases e:h=h0
  ·subst e;rw [jU]at q;cases q
   by_cases e':h'=h
   ·exact e'.symm
   ·have:=g.ix h' _ (old h' _ e' q');omega
  ·by_cases e':h'=h0
   ·subst e';rw [jU]at q';cases q'
    have:=g.ix h _ (old h _ e q);omega
   ·exact g.inj h h' i (old h i e q) (old h' i e' q')
 ·obtain⟨j,q,hx⟩:=g.cov b hb hbad
  have e:pI p s b≠h0:=fun e=>by rw [e,hn]at q;cases q
  have:=g.ix _ _ q
  exact⟨j,by rw [kM e];exact q,by rw [zB (by omega)];exact hx⟩
 ·rw [List.length_append]at hj
  by_cases e:j<out.length
  ·rw [zB e]at hx
   obtain⟨b,h1,h2,h3,q⟩:=g.mem j e x hx
   have e:pI p s b≠h0:=fun e=>by rw [e,hn]at q;cases q
   exact⟨b,h1,h2,h3,by rw [kM e];exact q⟩
  ·have:j=out.length:=by simp at hj;omega
   subst this
   rw [BO]at hx;simp at hx
 ·rw [List.length_append]at hj
  by_cases e:j<out.length
  ·rw [zB e];exact g.src j e
  ·have:j=out.length:=by simp at hj;omega
   subst this;rw [BO]
 ·rw [List.length_append];have:=g.len;simp;omega
 ·rw [List.length_append]at hj
  by_cases e:j<out.length
  ·rw [zB e];exact g.bl j e
  ·have:j=out.length:=by simp at hj;omega
   subst this;rw [BO];simp
theorem II.add {t n:Nat} {out:List aG} {m:List (Int × Int)} (g:II p s t n out m) (hbad:at' s.badBus t=false) {j:Nat} (hj:bQ gI (pI p s t) m=some (j:Int)):
  II p s (t+1) n (out.set j ⟨(at' out j).buses++[(t:Int)],(at' out j).sources⟩) m:=by
 have hjl:=(g.ix _ _ hj).2
 refine⟨fun h i q=>by rw [List.length_set];exact g.ix h i q,g.inj,fun b hb hbb=> ?_,fun i hi x hx=> ?_,fun i hi=> ?_,by rw [List.length_set];exact g.len,fun i hi=> ?_⟩
 ·by_cases e:b=t
  ·subst e
   exact⟨j,hj,by rw [bV (by omega)];simp⟩
  ·obtain⟨i,q,hx⟩:=g.cov b (by omega) hbb
   refine⟨i,q, ?_⟩
   by_cases e2:j=i
   ·subst e2;rw [bV (by omega)];simp [hx]
   ·rw [dh e2];exact hx
 ·rw [List.length_set]at hi
  by_cases e2:j=i
  ·subst e2
   rw [bV (by omega)]at hx
   rcases List.mem_append.mp hx with hx|hx
   ·obtain⟨b,h1,h2,h3,q⟩:=g.mem j hi x hx
    exact⟨b,h1,by omega,h3,q⟩
   ·simp at hx
    exact⟨t,hx,by omega,hbad,hj⟩
  ·rw [dh e2]at hx
   obtain⟨b,h1,h2,h3,q⟩:=g.mem i hi x hx
   exact⟨b,h1,by omega,h3,q⟩
 ·rw [List.length_set]at hi
  by_cases e2:j=i
  ·subst e2;rw [bV (by omega)];exact g.src j hi
  ·rw [dh e2];exact g.src i hi
 ·rw [List.length_set]at hi
  have:=g.bl i hi
  by_cases e2:j=i
  ·subst e2;rw [bV (by omega)];simp;omega
  ·rw [dh e2];omega
include hp hs
theorem aa6 {t:Nat} (ht:(t:Int)<p.buses) {out:List aG} {m:List (Int × Int)} (g:II p s t t out m):
  ∃out' m',fV p s ⟨(Bw p s p.links.length).1⟩ (out,m,(t:Int))=some (.next (out',m',((t+1:Nat):Int)))∧II p s (t+1) (t+1) out' m':=by
 have h3:=hs.badBus;have hb:=hp.b
 have hd:decide ((t:Int)<p.buses)=true:=decide_eq_true ht
 have hlen:=g.len
 unfold fV
 simp only [Int.toNat_natCast]
 rw [hd,cond_true,ai (by omega)]
 cases hbad:at' s.badBus t with
 |true=>
  refine⟨out,m,by rw [cond_true,wr (by omega)];rfl,g.ix,g.inj,fun b hb' hbb=> ?_,fun j hj x hx=> ?_,g.src,by omega,fun j hj=> ?_⟩
  ·have:b≠t:=fun e=>by rw [e,hbad]at hbb;cases hbb
   exact g.cov b (by omega) hbb
  ·obtain⟨b,h1,h2,h3,q⟩:=g.mem j hj x hx
   exact⟨b,h1,by omega,h3,q⟩
  ·have:=g.bl j hj;omega
 |false=>
  rw [cond_false,XD hp,Option.bind_some]
  have eh:(Bw p s p.links.length).2 (t:Int)=pI p s t:=rfl
  rw [eh]
  cases hq:bQ gI (pI p s t) m with
  |some i=>
   obtain⟨i0,i1⟩:=g.ix _ _ hq
   obtain⟨j,rfl⟩: ∃j:Nat,i=(j:Int):=⟨i.toNat,by omega⟩
   have hbl:=g.bl j (by omega)
   refine⟨_,_, ?_,⟨(g.add hbad hq).ix,g.inj,(g.add hbad hq).cov,(g.add hbad hq).mem,(g.add hbad hq).src,by have:=(g.add hbad hq).len;omega,(g.add hbad hq).bl⟩⟩
   simp only [Option.isSome_some,Bool.not_true,cond_false,Option.getD_some,Int.toNat_natCast]
   rw [ai ⟨by omega,by simp;omega,by simp;omega⟩,wr (by omega)]
   rfl
  |none=>
   have g':=g.fresh hq
   have hj:bQ gI (pI p s t) (jH gI (pI p s t) (out.length:Int) m)=some (out.length:Int):=jU _ _ _
   have g2:=g'.add hbad hj
   refine⟨_,_, ?_,g2⟩
   simp only [Option.isSome_none,Bool.not_false,cond_true,hj,Option.getD_some,Int.toNat_natCast,BO]
   rw [ai ⟨by simp;omega,by simp;omega⟩,ai ⟨by simp;omega,by simp⟩,wr (by omega)]
   rfl
theorem ahn: ∀(d t:Nat) (out:List aG) (m:List (Int × Int)),((t+d:Nat):Int)=p.buses→II p s t t out m→
  ∃out' m',ay (fV p s ⟨(Bw p s p.links.length).1⟩) (d+1) (out,m,(t:Int))=some (.brk (out',m'))∧II p s p.buses.toNat p.buses.toNat out' m':=by
 intro d
 induction d with
 |zero=>
  intro t out m ht g
  refine⟨out,m, ?_,by
   have:p.buses.toNat=t:=by omega
   rw [this];exact g⟩
  rw [bD]
  have hd:decide ((t:Int)<p.buses)=false:=decide_eq_false (by omega)
  unfold fV
  simp only
  rw [hd];rfl
 |succ d ih=>
  intro t out m ht g
  obtain⟨out1,m1,h1,g1⟩:=aa6 hp hs (by omega) g
  obtain⟨out2,m2,h2,g2⟩:=ih (t+1) out1 m1 (by omega) g1
  exact⟨out2,m2,by rw [bD,h1];exact h2,g2⟩
structure JJ (p:ah) (s:State) (m:List (Int × Int)) (o:List aG) (k:Nat) (out:List aG):Prop where
 len:out.length=o.length
 bus: ∀j,j<out.length→(at' out j).buses=(at' o j).buses
 src: ∀j,j<out.length→((at' out j).sources≠[]↔ ∃i,i<k∧tF p s i=true∧bQ gI (pI p s (at' p.sources i).bus.toNat) m=some (j:Int))
 sl: ∀j,j<out.length→(at' out j).sources.length≤k
theorem acv {o:List aG} {m:List (Int × Int)} (g:II p s p.buses.toNat p.buses.toNat o m) {k:Nat} (hk:k<p.sources.length) {out:List aG} (q:JJ p s m o k out):
  ∃out',fU p s ⟨(Bw p s p.links.length).1⟩ m (out,(k:Int))=some (.next (out',((k+1:Nat):Int)))∧JJ p s m o (k+1) out':=by
 have hl:=(hp.src k hk).bus;have h1:=hs.on;have h2:=hs.badSource;have h3:=hs.badBus;have h4:=hp.sl
 have hd:decide ((k:Int)<(p.sources.length:Int))=true:=decide_eq_true (by omega)
 have hcb:(bif (bif (at' s.on_ k)then(!(at' s.badSource k))else false)then(!(at' s.badBus (((at' p.sources k).bus).toNat)))else false)=tF p s k:=by
  unfold tF
  cases at' s.on_ k<;>cases at' s.badSource k<;>cases at' s.badBus (at' p.sources k).bus.toNat<;>rfl
 unfold fU
 simp only [Int.toNat_natCast]
 rw [hd,cond_true,ai (by omega),ai ⟨by omega,fun _=>by omega,fun _=>by omega⟩,hcb]
 cases hf:tF p s k with
 |false=>
  refine⟨out,by rw [cond_false,wr (by omega)];rfl,q.len,q.bus,fun j hj=> ?_,fun j hj=>by have:=q.sl j hj;omega⟩
  rw [q.src j hj]
  constructor
  ·rintro ⟨i,h1,h2,h3⟩;exact⟨i,by omega,h2,h3⟩
  ·rintro ⟨i,h1,h2,h3⟩
   have:i≠k:=fun e=>by rw [e,hf]at h2;cases h2
   exact⟨i,by omega,h2,h3⟩
 |true=>
  have hbad:at' s.badBus (at' p.sources k).bus.toNat=false:=by
   unfold tF at hf
   revert hf
   cases at' s.badBus (at' p.sources k).bus.toNat<;>simp
  obtain⟨j,hj,_⟩:=g.cov (at' p.sources k).bus.toNat (by omega) hbad
  have hjl:=(g.ix _ _ hj).2
  have hlen:=q.len
  have hsl:=q.sl j (by omega)
  have eh:(Bw p s p.links.length).2 (at' p.sources k).bus=pI p s (at' p.sources k).bus.toNat:=by unfold pI;rw [Int.toNat_of_nonneg (by omega)]
  rw [cond_true,XD hp,Option.bind_some,eh,hj]
  simp only [Option.getD_some,Int.toNat_natCast]
  rw [ai ⟨by omega,by simp;omega,by simp;omega⟩,wr (by omega)]
  refine⟨_,rfl,by rw [List.length_set];exact q.len,fun i hi=> ?_,fun i hi=> ?_,fun i hi=> ?_⟩
  ·rw [List.length_set]at hi
   by_cases e:j=i
   ·subst e;rw [bV (by omega)];exact q.bus j hi
   ·rw [dh e];exact q.bus i hi
  ·rw [List.length_set]at hi
   by_cases e:j=i
   ·subst e;rw [bV (by omega)]
    simp only [ne_eq,List.append_eq_nil_iff,List.cons_ne_nil,and_false,not_false_eq_true,true_iff]
    exact⟨k,by omega,hf,hj⟩
   ·rw [dh e,q.src i hi]
    constructor
    ·rintro ⟨i',h1,h2,h3⟩;exact⟨i',by omega,h2,h3⟩
    ·rintro ⟨i',h1,h2,h3⟩
     have:i'≠k:=fun e'=>by
      rw [e',hj]at h3
      have:=Option.some.inj h3
      omega
     exact⟨i',by omega,h2,h3⟩
  ·rw [List.length_set]at hi
   have:=q.sl i hi
   by_cases e:j=i
   ·subst e;rw [bV (by omega)];simp;omega
   ·rw [dh e];omega
theorem ahW {o:List aG} {m:List (Int × Int)} (g:II p s p.buses.toNat p.buses.toNat o m): ∀(d k:Nat) (out:List aG),k+d=p.sources.length→JJ p s m o k out→
  ∃out',ay (fU p s ⟨(Bw p s p.links.length).1⟩ m) (d+1) (out,(k:Int))=some (.brk out')∧JJ p s m o p.sources.length out':=by
 intro d
 induction d with
 |zero=>
  intro k out hk q
  refine⟨out, ?_,by
   have:p.sources.length=k:=by omega
   rw [this];exact q⟩
  rw [bD]
  have hd:decide ((k:Int)<(p.sources.length:Int))=false:=decide_eq_false (by omega)
  unfold fU
  simp only
  rw [hd];rfl
 |succ d ih=>
  intro k out hk q
  obtain⟨out1,h1,q1⟩:=acv hp hs g (by omega) q
  obtain⟨out2,h2,q2⟩:=ih (k+1) out1 (by omega) q1
  exact⟨out2,by rw [bD,h1];exact h2,q2⟩
theorem WX: ∃out o m,mY p s=some out∧II p s p.buses.toNat p.buses.toNat o m∧JJ p s m o p.sources.length out:=by
 have hb:=hp.b;have h4:=hp.sl
 obtain⟨o,m,h1,g⟩:=ahn hp hs p.buses.toNat 0 [] [] (by omega) ⟨fun h i q=>by simp [bQ]at q,fun h h' i q=>by simp [bQ]at q,fun b hb=>absurd hb (Nat.not_lt_zero _),fun j hj=>by simp at hj,fun j hj=>by simp at hj,Nat.le_refl _,fun j hj=>by simp at hj⟩
 obtain⟨out,h2,q⟩:=ahW hp hs g p.sources.length 0 o (by omega) ⟨rfl,fun _ _=>rfl,fun j hj=>by rw [g.src j hj];simp,fun j hj=>by rw [g.src j hj];simp⟩
 refine⟨out,o,m, ?_,g,q⟩
 unfold mY
 simp only [mh,Option.bind_some]
 rw [OI hp hs,Option.bind_some]
 have e1:ay (fV p s ⟨(Bw p s p.links.length).1⟩) FUEL (([]:List aG),([]:List (Int × Int)),0)=some (.brk (o,m)):=jQ h1 (by unfold FUEL;omega)
 have e2:ay (fU p s ⟨(Bw p s p.links.length).1⟩ m) FUEL (o,0)=some (.brk out):=jQ h2 (by unfold FUEL;omega)
 rw [e1]
 simp only [Option.bind_some]
 rw [e2]
 rfl
end
def qx (v:Bool) (o:List Bool) (l:List Int):List Bool:=l.foldl (fun o x=>o.set x.toNat v) o
theorem zX (v:Bool): ∀(l:List Int) (o:List Bool),(qx v o l).length=o.length
 |[],_=>rfl
 |x::l,o=>by
  show(qx v (o.set x.toNat v) l).length=_
  rw [zX v l,List.length_set]
theorem Ti (v:Bool) (o:List Bool) (l:List Int) (x:Int):qx v o (l++[x])=(qx v o l).set x.toNat v:=by simp [qx]
theorem Pt (v:Bool): ∀(l:List Int) (o:List Bool) (j:Nat),(∀x∈l,0≤x)→j<o.length→at' (qx v o l) j=if(j:Int)∈l then v else at' o j
 |[],o,j,_,_=>by simp [qx]
 |x::l,o,j,h,hj=>by
  show at' (qx v (o.set x.toNat v) l) j=_
  rw [Pt v l _ j (fun y hy=>h y (List.mem_cons_of_mem _ hy)) (by rw [List.length_set];exact hj)]
  have hx:=h x List.mem_cons_self
  by_cases e:(j:Int)∈l
  ·rw [if_pos e,if_pos (List.mem_cons_of_mem _ e)]
  ·rw [if_neg e]
   by_cases e2:x.toNat=j
   ·subst e2
    rw [bV hj,if_pos (by rw [Int.toNat_of_nonneg hx];exact List.mem_cons_self)]
   ·rw [dh e2,if_neg]
    intro hm
    rcases List.mem_cons.mp hm with h1|h1
    ·omega
    ·exact e h1
def LB (n:Nat) (l:List aG):List Bool:=l.foldl (fun o x=>qx (decide (0<(x.sources.length:Int))) o x.buses) (List.replicate n false)
theorem PV (n:Nat) (l:List aG) (x:aG):LB n (l++[x])=qx (decide (0<(x.sources.length:Int))) (LB n l) x.buses:=by simp [LB]
theorem Eb (n:Nat) (l:List aG):(LB n l).length=n:=by
 unfold LB
 suffices∀(l:List aG) (o:List Bool),(l.foldl (fun o x=>qx (decide (0<(x.sources.length:Int))) o x.buses) o).length=o.length by rw [this];simp
 intro l
 induction l with
 |nil=>intro o;rfl
 |cons x l ih=>intro o;rw [List.foldl_cons,ih,zX]
def Lr (p:ah) (s:State) (b:Nat):Prop:=at' s.badBus b=false∧ ∃k,k<p.sources.length∧tF p s k=true∧ ∃l,Wk p s (at' p.sources k).bus.toNat l b
section
variable {p:ah} {s:State} (hp:VP p) (hs:VS p s)
include hp hs
theorem adI {out:List aG} {j:Nat} (hj:j<out.length) (hx: ∀x∈(at' out j).buses,0≤x∧x<p.buses) (hl:(at' out j).buses.length≤1000) {o:List Bool} (ho:(o.length:Int)=p.buses):
  ay (kC out (j:Int)) FUEL (o,0)=some (.brk (qx (decide (0<((at' out j).sources.length:Int))) o (at' out j).buses)):=by
 have key:ay (kC out (j:Int)) FUEL (qx (decide (0<((at' out j).sources.length:Int))) o ((at' out j).buses.take 0),((0:Nat):Int))=some (.brk (qx (decide (0<((at' out j).sources.length:Int))) o (at' out j).buses)):=by
  refine aY (fun i=>(qx (decide (0<((at' out j).sources.length:Int))) o ((at' out j).buses.take i),(i:Int))) (at' out j).buses.length _ (fuel_lt (by omega)) (fun i hi=> ?_) ?_
  ·have hd:decide ((i:Int)<((at' out j).buses.length:Int))=true:=decide_eq_true (by omega)
   have hm:=hx _ (at_mem hi)
   have hlen:=zX (decide (0<((at' out j).sources.length:Int))) ((at' out j).buses.take i) o
   unfold kC
   simp only [Int.toNat_natCast]
   rw [hd,cond_true,ai (by omega),ai (by omega),wr (by omega),fP hi,Ti]
   rfl
  ·have hd:decide (((at' out j).buses.length:Int)<((at' out j).buses.length:Int))=false:=decide_eq_false (by omega)
   unfold kC
   simp only [Int.toNat_natCast]
   rw [hd,cond_false,List.take_length]
 exact key
theorem aeP: ∃L,oU p s=some (L,0)∧(L.length:Int)=p.buses∧ ∀b:Nat,(b:Int)<p.buses→(at' L b=true↔Lr p s b):=by
 have hb:=hp.b;have h4:=hp.sl
 obtain⟨out,o,m,e,g,q⟩:=WX hp hs
 have hlen:=q.len
 have hgl:=g.len
 have hbus: ∀j,j<out.length→ ∀x∈(at' out j).buses,∃b:Nat,x=b∧(b:Int)<p.buses∧at' s.badBus b=false∧bQ gI (pI p s b) m=some (j:Int):=by
  intro j hj x hx
  rw [q.bus j hj]at hx
  obtain⟨b,h1,h2,h3,h5⟩:=g.mem j (by omega) x hx
  exact⟨b,h1,by omega,h3,h5⟩
 have hx: ∀j,j<out.length→ ∀x∈(at' out j).buses,0≤x∧x<p.buses:=by
  intro j hj x hx
  obtain⟨b,h1,h2,_⟩:=hbus j hj x hx
  omega
 have hl: ∀j,j<out.length→(at' out j).buses.length≤1000:=by
  intro j hj;rw [q.bus j hj];have:=g.bl j (by omega);omega
 have hL:ay (kz out) FUEL (LB p.buses.toNat (out.take 0),((0:Nat):Int))=some (.brk (LB p.buses.toNat out)):=by
  refine aY (fun i=>(LB p.buses.toNat (out.take i),(i:Int))) out.length _ (fuel_lt (by omega)) (fun i hi=> ?_) ?_
  ·have hd:decide ((i:Int)<(out.length:Int))=true:=decide_eq_true (by omega)
   have hlo:=Eb p.buses.toNat (out.take i)
   unfold kz
   simp only
   rw [hd,cond_true,ai (by omega),adI hp hs hi (hx i hi) (hl i hi) (by omega)]
   simp only [Option.bind_some]
   rw [wr (by omega),fP hi,PV]
   rfl
  ·have hd:decide ((out.length:Int)<(out.length:Int))=false:=decide_eq_false (by omega)
   unfold kz
   simp only
   rw [hd,cond_false,List.take_length]
 have hat: ∀n,n≤out.length→ ∀b:Nat,(b:Int)<p.buses→(at' (LB p.buses.toNat (out.take n)) b=true↔ ∃j,j<n∧(b:Int)∈(at' out j).buses∧(at' out j).sources≠[]):=by
  intro n
  induction n with
  |zero=>
   intro _ b hb'
   rw [List.take_zero]
   show at' (List.replicate p.buses.toNat false) b=true↔_
   rw [gM (by omega)]
   simp
  |succ n ih=>
   intro hn b hb'
   have hln:=Eb p.buses.toNat (out.take n)
   rw [fP (by omega),PV,Pt _ _ _ _ (fun x h=>(hx n (by omega) x h).1) (by omega)]
   by_cases hm:(b:Int)∈(at' out n).buses
   ·rw [if_pos hm]
    have huniq: ∀j,j<out.length→(b:Int)∈(at' out j).buses→j=n:=by
     intro j hj hmj
     obtain⟨b1,e1,_,_,f1⟩:=hbus n (by omega) _ hm
     obtain⟨b2,e2,_,_,f2⟩:=hbus j hj _ hmj
     have:b1=b2:=by omega
     subst this
     rw [f1]at f2
     have:=Option.some.inj f2
     omega
    constructor
    ·intro hd
     refine⟨n,by omega,hm,fun hn=> ?_⟩
     rw [hn]at hd;simp at hd
    ·rintro ⟨j,hj,hmj,hsj⟩
     have:=huniq j (by omega) hmj
     subst this
     have:=List.length_pos_iff.mpr hsj
     exact decide_eq_true (by omega)
   ·rw [if_neg hm,ih (by omega) b hb']
    constructor
    ·rintro ⟨j,hj,h⟩;exact⟨j,by omega,h⟩
    ·rintro ⟨j,hj,h⟩
     have:j≠n:=fun e=>by subst e;exact hm h.1
     exact⟨j,by omega,h⟩
 refine⟨LB p.buses.toNat out, ?_,by rw [Eb];omega,fun b hb'=> ?_⟩
 ·unfold oU
  have h0:su p s=0:=ou.mpr ⟨hp,hs⟩
  rw [qd p s hp.small,h0,Option.bind_some]
  simp only [decide_true,Bool.not_true,cond_false]
  rw [ai ⟨by omega,by omega,by omega⟩,e,Option.bind_some]
  have hL':ay (kz out) FUEL (List.replicate p.buses.toNat false,0)=some (.brk (LB p.buses.toNat out)):=hL
  rw [hL'];rfl
 ·have:=hat out.length (Nat.le_refl _) b hb'
  rw [List.take_length]at this
  rw [this]
  constructor
  ·rintro ⟨j,hj,hm,hsj⟩
   obtain⟨b1,e1,h1,hbad,f1⟩:=hbus j hj _ hm
   have:b1=b:=by omega
   subst this
   obtain⟨k,hk,hf,f2⟩:=(q.src j hj).mp hsj
   have hk2:=(hp.src k hk).bus
   have:=g.inj _ _ _ f1 f2
   obtain⟨l,w⟩:=(Ut hp (by omega) hb').mp this.symm
   exact⟨hbad,k,hk,hf,l,w⟩
  ·rintro ⟨hbad,k,hk,hf,l,w⟩
   have hk2:=(hp.src k hk).bus
   have he:=(Ut (s:=s) hp (u:=(at' p.sources k).bus.toNat) (by omega) hb').mpr ⟨l,w⟩
   obtain⟨j,hj,hm⟩:=g.cov b (by omega) hbad
   have hjl:=(g.ix _ _ hj).2
   refine⟨j,by omega,by rw [q.bus j (by omega)];exact hm, ?_⟩
   rw [q.src j (by omega)]
   exact⟨k,hk,hf,by rw [he];exact hj⟩
omit hp hs
theorem Lr.mono {c:List Bool} {b:Nat} (hc: ∀k,k<p.links.length→at' c k=true→at' s.closed k=true) (h:Lr p ⟨c,s.locked,s.badLink,s.on_,s.badSource,s.earthed,s.badBus⟩ b):Lr p s b:=by
 obtain⟨h1,k,hk,hf,l,w⟩:=h
 refine⟨h1,k,hk,hf,l, ?_⟩
 clear hf h1 hk
 induction w with
 |nil=>exact .nil
 | @snoc _ _ _ i _ hi hcb he ih=>
  refine ih.snoc hi ?_ he
  have:=hc i hi
  unfold fM at hcb ⊢
  simp only [Bool.and_eq_true]at hcb ⊢
  exact⟨⟨⟨this hcb.1.1.1,hcb.1.1.2⟩,hcb.1.2⟩,hcb.2⟩
end
def Aw (p:ah) (s:State) (o:List Bool) (i:Nat):List Bool:=
 bif fM p s i && (at' o (at' p.links i).a.toNat||at' o (at' p.links i).b.toNat)then(o.set (at' p.links i).a.toNat true).set (at' p.links i).b.toNat true else o
def rF (p:ah) (s:State) (o:List Bool):Nat→List Bool
 |0=>o
 |n+1=>Aw p s (rF p s o n) n
def NQ (p:ah) (s:State) (o:List Bool):Nat→List Bool
 |0=>o
 |n+1=>rF p s (NQ p s o n) p.links.length
theorem at_set {o:List Bool} {a v:Nat} (hv:v<o.length):at' (o.set a true) v=(decide (v=a)||at' o v):=by
 by_cases e:v=a
 ·subst e;rw [bV hv];simp
 ·rw [dh (Ne.symm e)];simp [e]
theorem Ps (p:ah) (s:State) (o:List Bool) (i:Nat):(Aw p s o i).length=o.length:=by
 unfold Aw;cases(fM p s i && (at' o (at' p.links i).a.toNat||at' o (at' p.links i).b.toNat))<;>simp
theorem wY (p:ah) (s:State) (o:List Bool): ∀n,(rF p s o n).length=o.length
 |0=>rfl
 |n+1=>by rw [rF,Ps,wY p s o n]
theorem zh (p:ah) (s:State) (o:List Bool): ∀n,(NQ p s o n).length=o.length
 |0=>rfl
 |n+1=>by rw [NQ,wY,zh p s o n]
theorem Ra {o:List Bool} {a:Nat} (ha:a<o.length):(at' o a=true→o.set a true=o)∧(at' o a=false→uO (o.set a true)=uO o+1):=by
 refine⟨fun h=>Gx (by simp) fun i hi=> ?_,fun h=> ?_⟩
 ·rw [at_set (by simpa using hi)]
  by_cases e:i=a
  ·subst e;simp [h]
  ·simp [e]
 ·have h2:=Mq (o.set a true) a (by simpa using ha) (by rw [at_set ha];simp)
  rw [List.set_set]at h2
  have:o.set a false=o:=Gx (by simp) fun i hi=>by
   by_cases e:i=a
   ·subst e;rw [bV ha,h]
   ·rw [dh (Ne.symm e)]
  rw [this]at h2
  omega
section
variable {p:ah} {s:State} (hp:VP p) (hs:VS p s)
include hp hs
theorem VH {o:List Bool} (ho:(o.length:Int)=p.buses) {i:Nat} (hi:i<p.links.length):
  (Aw p s o i=o∧(fM p s i=true→at' o (at' p.links i).a.toNat=at' o (at' p.links i).b.toNat))∨uO o<uO (Aw p s o i):=by
 have hl:=hp.lnk i hi
 have ha:=hl.a;have hb:=hl.b;have hne:=hl.ab
 have ka:(at' p.links i).a.toNat<o.length:=by omega
 have kb:(at' p.links i).b.toNat<o.length:=by omega
 have kn:(at' p.links i).b.toNat≠(at' p.links i).a.toNat:=by omega
 unfold Aw
 generalize (at' p.links i).a.toNat=a at*
 generalize (at' p.links i).b.toNat=b at*
 cases hc:fM p s i with
 |false=>left;exact⟨rfl,fun h=>by cases h⟩
 |true=>
  obtain⟨a1,a2⟩:=Ra ka
  have hba:at' (o.set a true) b=at' o b:=dh (Ne.symm kn)
  obtain⟨b1,b2⟩:=Ra (o:=o.set a true) (a:=b) (by simpa using kb)
  rw [hba]at b1 b2
  cases h1:at' o a with
  |true=>
   rw [a1 h1]at b1 b2 ⊢
   cases h2:at' o b with
   |true=>left;simp [b1 h2,h1,h2]
   |false=>right;have:=b2 h2;simp [h1];omega
  |false=>
   have a2:=a2 h1
   cases h2:at' o b with
   |true=>right;have:=b1 h2;simp [this];omega
   |false=>left;simp [h1,h2]
theorem Gt {o:List Bool} (ho:(o.length:Int)=p.buses): ∀n,n≤p.links.length→
  (rF p s o n=o∧ ∀i,i<n→fM p s i=true→at' o (at' p.links i).a.toNat=at' o (at' p.links i).b.toNat)∨uO o<uO (rF p s o n)
 |0,_=> .inl ⟨rfl,fun i hi=>absurd hi (Nat.not_lt_zero i)⟩
 |n+1,hn=>by
  have ih:=Gt ho n (by omega)
  have st:=VH hp hs (o:=rF p s o n) (by rw [wY];exact ho) (i:=n) (by omega)
  rw [rF]
  rcases ih with⟨e,h⟩|h
  ·rw [e]at st ⊢
   rcases st with⟨e2,h2⟩|h2
   ·left
    refine⟨e2,fun i hi hc=> ?_⟩
    by_cases q:i=n
    ·subst q;exact h2 hc
    ·exact h i (by omega) hc
   ·right;exact h2
  ·right
   rcases st with⟨e2,_⟩|h2
   ·rw [e2];exact h
   ·omega
theorem Xa {o:List Bool} (ho:(o.length:Int)=p.buses) (h1:1≤uO o): ∀n,rF p s (NQ p s o n) p.links.length=NQ p s o n∨n+1≤uO (NQ p s o n)
 |0=> .inr h1
 |n+1=>by
  rcases Xa ho h1 n with e|e
  ·left;rw [NQ,e,e]
  ·rcases Gt hp hs (o:=NQ p s o n) (by rw [zh];exact ho) p.links.length (Nat.le_refl _)with⟨q,_⟩|q
   ·left;rw [NQ,q,q]
   ·right;rw [NQ];omega
theorem aaZ {b:Nat} {o:List Bool} (ho:(o.length:Int)=p.buses) (h: ∀v,v<o.length→at' o v=true→ ∃l,Wk p s b l v) {i:Nat} (hi:i<p.links.length): ∀v,v<(Aw p s o i).length→at' (Aw p s o i) v=true→ ∃l,Wk p s b l v:=by
 intro v hv hm
 rw [Ps]at hv
 have hl:=hp.lnk i hi
 have ha:=hl.a;have hb:=hl.b
 unfold Aw at hm
 cases hc:fM p s i with
 |false=>rw [hc]at hm;exact h v hv hm
 |true=>
  cases hq:(at' o (at' p.links i).a.toNat||at' o (at' p.links i).b.toNat)with
  |false=>rw [hc,hq]at hm;exact h v hv hm
  |true=>
   rw [hc,hq]at hm
   simp only [Bool.and_self,cond_true]at hm
   rw [at_set (by simpa using hv),at_set hv]at hm
   simp only [Bool.or_eq_true,decide_eq_true_eq]at hm hq
   rcases hm with e|e|e
   ·rcases hq with q|q
    ·obtain⟨l,w⟩:=h _ (by omega) q
     exact⟨_,w.snoc hi hc (.inl ⟨rfl,e.symm⟩)⟩
    ·rw [e];exact h _ (by omega) q
   ·rcases hq with q|q
    ·rw [e];exact h _ (by omega) q
    ·obtain⟨l,w⟩:=h _ (by omega) q
     exact⟨_,w.snoc hi hc (.inr ⟨rfl,e.symm⟩)⟩
   ·exact h v hv e
theorem Tg {b:Nat} {o:List Bool} (ho:(o.length:Int)=p.buses) (h: ∀v,v<o.length→at' o v=true→ ∃l,Wk p s b l v): ∀n,n≤p.links.length→ ∀v,v<(rF p s o n).length→at' (rF p s o n) v=true→ ∃l,Wk p s b l v
 |0,_=>h
 |n+1,hn=>aaZ hp hs (by rw [wY];exact ho) (Tg ho h n (by omega)) (by omega)
theorem aai {b:Nat} {o:List Bool} (ho:(o.length:Int)=p.buses) (h: ∀v,v<o.length→at' o v=true→ ∃l,Wk p s b l v): ∀n,∀v,v<(NQ p s o n).length→at' (NQ p s o n) v=true→ ∃l,Wk p s b l v
 |0=>h
 |n+1=>Tg hp hs (by rw [zh];exact ho) (aai ho h n) _ (Nat.le_refl _)
theorem WW {o:List Bool} {v i:Nat} (hv:v<o.length) (h:at' o v=true):at' (Aw p s o i) v=true:=by
 unfold Aw
 cases(fM p s i && (at' o (at' p.links i).a.toNat||at' o (at' p.links i).b.toNat))with
 |false=>exact h
 |true=>rw [cond_true,at_set (by simpa using hv),at_set hv,h];simp
theorem MG {o:List Bool} {v:Nat} (hv:v<o.length) (h:at' o v=true): ∀n,at' (rF p s o n) v=true
 |0=>h
 |n+1=>WW hp hs (by rw [wY];exact hv) (MG hv h n)
theorem SB {o:List Bool} {v:Nat} (hv:v<o.length) (h:at' o v=true): ∀n,at' (NQ p s o n) v=true
 |0=>h
 |n+1=>MG hp hs (by rw [zh];exact hv) (SB hv h n) _
theorem SI {b:Nat} (hb:(b:Int)<p.buses): ∃R,kT p s (b:Int)=some R∧(R.length:Int)=p.buses∧ ∀v,v<R.length→(at' R v=true↔ ∃l,Wk p s b l v):=by
 have hbb:=hp.b;have hll:=hp.ll
 obtain⟨n,hn⟩: ∃n:Nat,p.buses=(n:Int):=⟨p.buses.toNat,by omega⟩
 have hO:((List.replicate n false).set b true).length=n:=by simp
 have h1:at' ((List.replicate n false).set b true) b=true:=bV (by simp;omega)
 have hw0: ∀v,v<((List.replicate n false).set b true).length→at' ((List.replicate n false).set b true) v=true→ ∃l,Wk p s b l v:=by
  intro v hv h
  rw [hO]at hv
  rw [at_set (by simpa using hv),gM hv]at h
  simp at h
  subst h
  exact⟨[], .nil⟩
 have hc1:1≤uO ((List.replicate n false).set b true):=by
  have:=(Ra (o:=List.replicate n false) (a:=b) (by simp;omega)).2 (gM (by omega))
  omega
 generalize ho:(List.replicate n false).set b true=o at*
 refine⟨NQ p s o n, ?_,by rw [zh,hO,hn],fun v hv=> ⟨aai hp hs (by rw [hO,hn]) hw0 n v hv,fun⟨l,w⟩=> ?_⟩⟩
 ·unfold kT
  rw [hn,ai (by omega),Int.toNat_natCast,ai (by simp;omega),Int.toNat_natCast,ho]
  have L1: ∀q:List Bool,q.length=n→ay (jM p s (b:Int)) FUEL (q,0)=some (.brk (rF p s q p.links.length)):=by
   intro q hq
   refine aY (body:=jM p s (b:Int)) (fun t=>(rF p s q t,(t:Int))) p.links.length _ (fuel_lt (by omega)) (fun t ht=> ?_) ?_
   ·have hl:=hp.lnk t ht
    have ha:=hl.a;have hb2:=hl.b
    have hlq:=wY p s q t
    unfold jM
    have d1:decide ((t:Int)<(p.links.length:Int))=true:=decide_eq_true (by omega)
    simp only [d1,cond_true]
    rw [ai (by omega),Ew hp hs ht,Option.bind_some,Int.toNat_natCast,ai ⟨fun _=>by omega,fun _=>by omega⟩,ai (by omega),ai (by rw [List.length_set];omega),wr (by omega),zU,Xy]
    rw [show rF p s q (t+1)=Aw p s (rF p s q t) t from rfl]
    unfold Aw
    cases(fM p s t && (at' (rF p s q t) (at' p.links t).a.toNat||at' (rF p s q t) (at' p.links t).b.toNat))<;>rfl
   ·unfold jM
    have d1:decide ((p.links.length:Int)<(p.links.length:Int))=false:=decide_eq_false (by omega)
    simp only [d1,cond_false]
  have L0:ay (jF p s (b:Int)) FUEL (o,0)=some (.brk (NQ p s o n)):=by
   refine aY (body:=jF p s (b:Int)) (fun t=>(NQ p s o t,(t:Int))) n _ (fuel_lt (by omega)) (fun t ht=> ?_) ?_
   ·unfold jF
    have d1:decide ((t:Int)<p.buses)=true:=decide_eq_true (by omega)
    simp only [d1,cond_true]
    rw [L1 _ (by rw [zh,hO]),Option.bind_some,wr (by omega)]
    rfl
   ·unfold jF
    have d1:decide ((n:Int)<p.buses)=false:=decide_eq_false (by omega)
    simp only [d1,cond_false]
  rw [L0];rfl
 ·have hle:uO (NQ p s o n)≤n:=by have:=Xd (NQ p s o n);rw [zh,hO]at this;exact this
  have hfix:rF p s (NQ p s o n) p.links.length=NQ p s o n:=(Xa hp hs (by rw [hO,hn]) hc1 n).resolve_right (by omega)
  have hcl:=(Gt hp hs (o:=NQ p s o n) (by rw [zh,hO,hn]) p.links.length (Nat.le_refl _)).resolve_right (by rw [hfix];omega)
  have hbm:at' (NQ p s o n) b=true:=SB hp hs (by omega) h1 n
  clear hv
  induction w with
  |nil=>exact hbm
  |snoc w' hi hc he ih=>
   have ih:=ih ⟨_,w'⟩
   have:=hcl.2 _ hi hc
   rcases he with⟨e1,e2⟩|⟨e1,e2⟩
   ·rw [←e2,←this,e1];exact ih
   ·rw [←e2,this,e1];exact ih
end
theorem SL {α:Type} (n:Nat) (f:Nat→α):tab (n+1) f=tab n f++[f n]:=by simp [tab,List.range_succ]
theorem MX (s:State) (h:F4 s):nR s=some s:=by
 obtain⟨h0,h1,h2,h3,h4,h5,h6⟩:=h
 unfold nR
 rw [iH _ h0,iH _ h1,iH _ h2,iH _ h3,iH _ h4,iH _ h5,iH _ h6]
 simp only [Option.bind_some]
 rw [ai (by omega),ai (by omega),ai (by omega),ai (by omega),ai (by omega),ai (by omega),ai (by omega)]
section
variable {p:ah} {s:State} (hp:VP p) (hs:VS p s)
include hp hs
theorem VF (n:Nat) (hn:p.buses=(n:Int)) (r:List Bool) (hr:r.length=n) (f:Nat→Bool):ay (jd p r) FUEL (tab n f,0)=some (.brk (tab n fun v=>f v||at' r v)):=by
 have hb:=hp.b
 have key:ay (jd p r) FUEL (tab n (fun v=>if v<0 then f v||at' r v else f v),((0:Nat):Int))=some (.brk (tab n fun v=>f v||at' r v)):=by
  refine aY (body:=jd p r) (fun t=>(tab n (fun v=>if v<t then f v||at' r v else f v),(t:Int))) n _ (fuel_lt (by omega)) (fun t ht=> ?_) ?_
  ·unfold jd
   have d1:decide ((t:Int)<p.buses)=true:=decide_eq_true (by omega)
   simp only [d1,cond_true,Int.toNat_natCast]
   rw [ai ⟨by rw [aK];omega,fun _=>by omega⟩,wr (by omega),kW ht,if_neg (Nat.lt_irrefl _),BP]
   congr 2
   rw [Prod.mk.injEq]
   refine⟨dw fun v hv=> ?_,by omega⟩
   by_cases e:v=t
   ·subst e;rw [if_pos rfl,if_pos (by omega),zU]
   ·rw [if_neg e]
    by_cases q:v<t
    ·rw [if_pos q,if_pos (by omega)]
    ·rw [if_neg q,if_neg (by omega)]
  ·unfold jd
   have d1:decide ((n:Int)<p.buses)=false:=decide_eq_false (by omega)
   simp only [d1,cond_false]
   rw [dw (g:=fun v=>f v||at' r v) fun v hv=>if_pos hv]
 have e0:(tab n fun v=>if v<0 then f v||at' r v else f v)=tab n f:=dw fun v _=>if_neg (Nat.not_lt_zero v)
 rw [e0]at key
 exact key
theorem Vv: ∃L,oM p s=some (L,0)∧(L.length:Int)=p.buses∧ ∀b:Nat,(b:Int)<p.buses→(at' L b=true↔Lr p s b):=by
 have hb:=hp.b;have hsl:=hp.sl
 obtain⟨n,hn⟩: ∃n:Nat,p.buses=(n:Int):=⟨p.buses.toNat,by omega⟩
 have hex: ∀k:Nat,∃R:List Bool,k<p.sources.length→kT p s (at' p.sources k).bus=some R∧R.length=n∧ ∀v,v<n→(at' R v=true↔ ∃l,Wk p s (at' p.sources k).bus.toNat l v):=by
  intro k
  by_cases h:k<p.sources.length
  ·have hk:=(hp.src k h).bus
   obtain⟨R,h1,h2,h3⟩:=SI hp hs (b:=(at' p.sources k).bus.toNat) (by omega)
   rw [show(((at' p.sources k).bus.toNat:Nat):Int)=(at' p.sources k).bus by omega]at h1
   exact⟨R,fun _=> ⟨h1,by omega,fun v hv=>h3 v (by omega)⟩⟩
  ·exact⟨[],fun q=>absurd q h⟩
 let R:Nat→List Bool:=fun k=>(hex k).choose
 have hR: ∀k,k<p.sources.length→kT p s (at' p.sources k).bus=some (R k)∧(R k).length=n∧ ∀v,v<n→(at' (R k) v=true↔ ∃l,Wk p s (at' p.sources k).bus.toNat l v):=fun k=>(hex k).choose_spec
 let O:Nat→List Bool:=fun k=>tab n fun v=>(List.range k).any fun j=>tF p s j && at' (R j) v
 refine⟨O p.sources.length, ?_,by rw [aK];omega,fun v hv=> ?_⟩
 ·unfold oM
  rw [oP p s hp.small,ou.mpr ⟨hp,hs⟩,Option.bind_some]
  simp only [decide_true,Bool.not_true,cond_false]
  rw [ai (by omega)]
  have key:ay (ji p s) FUEL (O 0,((0:Nat):Int))=some (.brk (O p.sources.length)):=by
   refine aY (body:=ji p s) (fun k=>(O k,(k:Int))) p.sources.length _ (fuel_lt (by omega)) (fun k hk=> ?_) ?_
   ·unfold ji
    have d1:decide ((k:Int)<(p.sources.length:Int))=true:=decide_eq_true (by omega)
    simp only [d1,cond_true,Int.toNat_natCast]
    rw [Kb hp hs hk,Option.bind_some,wr (by omega)]
    have hOk:O (k+1)=tab n fun v=>((List.range k).any fun j=>tF p s j && at' (R j) v)||(tF p s k && at' (R k) v):=dw fun v _=>by rw [List.range_succ,List.any_append,List.any_cons,List.any_nil,Bool.or_false]
    cases hf:tF p s k with
    |false=>
     rw [hf]at hOk
     simp only [Bool.false_and,Bool.or_false]at hOk
     rw [hOk];rfl
    |true=>
     rw [hf]at hOk
     simp only [Bool.true_and]at hOk
     obtain⟨h1,h2,_⟩:=hR k hk
     simp only [Bool.not_true,cond_false]
     rw [h1,Option.bind_some,ai (by omega),VF hp hs n hn (R k) h2,Option.bind_some,hOk]
     rfl
   ·unfold ji
    have d1:decide ((p.sources.length:Int)<(p.sources.length:Int))=false:=decide_eq_false (by omega)
    simp only [d1,cond_false]
  have e0:O 0=List.replicate p.buses.toNat false:=by rw [Lf,show p.buses.toNat=n by omega];rfl
  rw [e0]at key
  have key':ay (ji p s) FUEL (List.replicate p.buses.toNat false,0)=_:=key
  rw [key'];rfl
 ·have hv':v<n:=by omega
  rw [show at' (O p.sources.length) v=_ from kW hv',List.any_eq_true]
  constructor
  ·rintro ⟨k,hk,h⟩
   have hk:=List.mem_range.mp hk
   rw [Bool.and_eq_true]at h
   obtain⟨l,w⟩:=((hR k hk).2.2 v hv').mp h.2
   refine⟨?_,k,hk,h.1,l,w⟩
   have hf:=h.1
   cases w with
   |nil=>
    unfold tF at hf
    revert hf
    cases at' s.badBus (at' p.sources k).bus.toNat<;>simp
   |snoc w' hi hc he=>
    unfold fM at hc
    rcases he with⟨e1,e2⟩|⟨e1,e2⟩
    ·rw [e2]at hc;revert hc;cases at' s.badBus v<;>simp
    ·rw [e2]at hc;revert hc;cases at' s.badBus v<;>simp
  ·rintro ⟨_,k,hk,hf,l,w⟩
   exact⟨k,List.mem_range.mpr hk,by rw [hf,((hR k hk).2.2 v hv').mpr ⟨l,w⟩];rfl⟩
theorem Zh: ∃L,oU p s=some (L,0)∧oM p s=some (L,0)∧(L.length:Int)=p.buses:=by
 obtain⟨L,h1,h2,h3⟩:=aeP hp hs
 obtain⟨L',g1,g2,g3⟩:=Vv hp hs
 have:L'=L:=Gx (by omega) fun i hi=>by
  rw [Bool.eq_iff_iff,g3 i (by omega),h3 i (by omega)]
 subst this
 exact⟨L',h1,g1,h2⟩
def kg (p:ah) (L:List Bool) (k:Nat):ax:=⟨at' L (at' p.racks k).feeds.e0.toNat,bif decide (0≤(at' p.racks k).feeds.e1)then at' L (at' p.racks k).feeds.e1.toNat else false⟩
theorem Sm: ∃L,qD p s=some (tab p.racks.length (kg p L),0)∧qE p s=some (tab p.racks.length (kg p L),0):=by
 obtain⟨L,h1,h2,h3⟩:=Zh hp hs
 have hrl:=hp.rl
 refine⟨L, ?_, ?_⟩
 ·unfold qD
  rw [h1,Option.bind_some]
  simp only [decide_true,Bool.not_true,cond_false]
  have key:ay (jO p (L,0)) FUEL (tab 0 (kg p L),((0:Nat):Int))=some (.brk (tab p.racks.length (kg p L))):=by
   refine aY (body:=jO p (L,0)) (fun t=>(tab t (kg p L),(t:Int))) p.racks.length _ (fuel_lt (by omega)) (fun t ht=> ?_) ?_
   ·have hr:=hp.rck t ht
    have r0:=hr.e0;have r1:=hr.e1
    unfold jO
    have d1:decide ((t:Int)<(p.racks.length:Int))=true:=decide_eq_true (by omega)
    have d2:decide (0≤(at' p.racks t).feeds.e0)=true:=decide_eq_true (by omega)
    simp only [d1,cond_true,Int.toNat_natCast,d2]
    have q1: ∀l,gB [(decide (0≤(at' p.racks t).feeds.e1),true)]=l→l=true→0≤(at' p.racks t).feeds.e1:=fun l e h=>by
     subst e;simp [gB]at h;exact h
    rw [ai (by omega),ai (fun _=>by omega),ai (fun h=>by have:=q1 _ rfl h;omega),ai (by rw [aK,List.length_singleton];omega),wr (by omega),SL]
    rfl
   ·unfold jO
    have d1:decide ((p.racks.length:Int)<(p.racks.length:Int))=false:=decide_eq_false (by omega)
    simp only [d1,cond_false]
  have key':ay (jO p (L,0)) FUEL ([],0)=_:=key
  rw [key'];rfl
 ·unfold qE
  rw [h2,Option.bind_some]
  simp only [decide_true,Bool.not_true,cond_false]
  have key:ay (jN p (L,0)) FUEL (tab 0 (kg p L),((0:Nat):Int))=some (.brk (tab p.racks.length (kg p L))):=by
   refine aY (body:=jN p (L,0)) (fun t=>(tab t (kg p L),(t:Int))) p.racks.length _ (fuel_lt (by omega)) (fun t ht=> ?_) ?_
   ·have hr:=hp.rck t ht
    have r0:=hr.e0;have r1:=hr.e1
    unfold jN
    have d1:decide ((t:Int)<(p.racks.length:Int))=true:=decide_eq_true (by omega)
    have q1: ∀l,gB [(decide (0≤(at' p.racks t).feeds.e1),true)]=l→l=true→0≤(at' p.racks t).feeds.e1:=fun l e h=>by
     subst e;simp [gB]at h;exact h
    have e1:(bif decide (0≤(at' p.racks t).feeds.e1)then at' L (if(at' p.racks t).feeds.e1<0 then 0 else(at' p.racks t).feeds.e1).toNat else false)=(bif decide (0≤(at' p.racks t).feeds.e1)then at' L (at' p.racks t).feeds.e1.toNat else false):=by
     by_cases h:0≤(at' p.racks t).feeds.e1
     ·rw [if_neg (by omega)]
     ·rw [decide_eq_false h];rfl
    simp only [d1,cond_true,Int.toNat_natCast,e1]
    rw [ai (by omega),ai ⟨by omega,fun h=>by have:=q1 _ rfl h;rw [if_neg (by omega)];omega,by rw [aK,List.length_singleton];omega,by rw [aK,List.length_singleton];omega⟩,wr (by omega),SL]
    rfl
   ·unfold jN
    have d1:decide ((p.racks.length:Int)<(p.racks.length:Int))=false:=decide_eq_false (by omega)
    simp only [d1,cond_false]
  have key':ay (jN p (L,0)) FUEL ([],0)=_:=key
  rw [key'];rfl
def ahJ (s:State) (b:Nat):State:=⟨s.closed,s.locked,s.badLink,s.on_,s.badSource,s.earthed,s.badBus.set b true⟩
theorem VS.bad {b:Nat}:VS p (ahJ s b):=⟨hs.closed,hs.locked,hs.badLink,hs.on,hs.badSource,hs.earthed,by show((s.badBus.set b true).length:Int)=_;rw [List.length_set];exact hs.badBus,hs.cable⟩
theorem abt {b:Nat} (hb:(b:Int)<p.buses):qb p s ⟨1,(b:Int)⟩=some (ahJ s b,0):=by
 have h7:=hs.badBus;have hbb:=hp.b
 unfold qb rE
 rw [qd p s hp.small,ou.mpr ⟨hp,hs⟩,Option.bind_some,MX s (hs.small hp)]
 simp only [decide_true,Bool.not_true,cond_false,Option.bind_some,Lm,cond_true,wZ,Int.toNat_natCast]
 rw [wr (by omega)]
 have:wi (b:Int) 0 ((s.badBus.length:Int) - 1)=true:=by unfold wi;simp;omega
 rw [this,ai (by omega)]
 rfl
end
def Vh (p:ah) (bus:Int) (x:Event):Bool:= !(decide ((at' p.links x.link.toNat).a=bus)||decide ((at' p.links x.link.toNat).b=bus))
theorem DN {p:ah} {s:State} {bus:Int} {C:bg} {e:Int} (h1:dG p s bus=some (C,e)) (h2:eZ p s bus=some (toR C,e)) (hc:e≠0→C.cleared=false) (hlen:C.events.length≤1000) (hlk: ∀e∈C.events,0≤e.link∧e.link<(p.links.length:Int)):
  ∃r,fA p s bus=some r∧iY p s bus=some r:=by
 unfold fA iY
 rw [h1,h2,Option.bind_some,Option.bind_some]
 by_cases he:e=0
 ·subst he
  simp only [decide_true,Bool.not_true,cond_false,show(toR C).cleared=C.cleared from rfl]
  cases hcl:C.cleared with
  |false=>exact⟨(false,0),by simp [gB],by simp⟩
  |true=>
   have hat: ∀t,t<C.events.length→0≤(at' C.events t).link∧(at' C.events t).link<(p.links.length:Int):=fun t ht=>hlk _ (at_mem ht)
   have k1:ay (fI C.events p.buses p.sources p.links p.racks bus) FUEL 0=some (match(List.range C.events.length).find? (fun i=>Vh p bus (at' C.events i))with|some i=> .ret (i:Int)|none=> .brk ()):=by
    refine gH C.events.length (fun i=>Vh p bus (at' C.events i)) (fun i=>i) (by omega) (fun t ht=> ?_) ?_
    ·have:=hat t ht
     unfold fI kZ wS
     have d1:decide ((t:Int)<(C.events.length:Int))=true:=decide_eq_true (by omega)
     simp only [d1,cond_true,Int.toNat_natCast]
     rw [ai ⟨by omega,fun _=>by omega⟩]
     simp only [Option.bind_some]
     rw [ai (by omega),wr (by omega),zU]
     exact uQ _ _ _
    ·unfold fI
     have d1:decide ((C.events.length:Int)<(C.events.length:Int))=false:=decide_eq_false (by omega)
     simp only [d1,cond_false]
   have k2:ay (iT p bus (toR C,0)) FUEL 0=some (match(List.range C.events.length).find? (fun i=>Vh p bus (at' C.events i))with|some _=> .ret (false,0)|none=> .brk ()):=by
    refine gH C.events.length (fun i=>Vh p bus (at' C.events i)) (fun _=>(false,(0:Int))) (by omega) (fun t ht=> ?_) ?_
    ·have:=hat t ht
     unfold iT
     simp only [show(toR C).events=C.events from rfl]
     have d1:decide ((t:Int)<(C.events.length:Int))=true:=decide_eq_true (by omega)
     simp only [d1,cond_true,Int.toNat_natCast]
     rw [ai ⟨by omega,by omega⟩,wr (by omega)]
     have:(bif !decide ((at' p.links (at' C.events t).link.toNat).a=bus)then !decide ((at' p.links (at' C.events t).link.toNat).b=bus)else false)=Vh p bus (at' C.events t):=by
      unfold Vh
      cases decide ((at' p.links (at' C.events t).link.toNat).a=bus)<;>rfl
     rw [this]
     exact uQ _ _ _
    ·unfold iT
     simp only [show(toR C).events=C.events from rfl]
     have d1:decide ((C.events.length:Int)<(C.events.length:Int))=false:=decide_eq_false (by omega)
     simp only [d1,cond_false]
   unfold iO j6
   rw [k1,k2]
   cases(List.range C.events.length).find? (fun i=>Vh p bus (at' C.events i))with
   |none=>exact⟨(true,0),rfl,rfl⟩
   |some k=>
    refine⟨(false,0), ?_,rfl⟩
    have:decide ((0:Int)≤(k:Int))=true:=decide_eq_true (by omega)
    simp [gB,this]
 ·have:=hc he
  rw [decide_eq_false he]
  exact⟨(false,e),rfl,rfl⟩
theorem ZH {p:ah} (hp:VP p) {s:State} (hs:VS p s) {b:Nat} (hb:(b:Int)<p.buses) {C:bg} (h1:dG p s (b:Int)=some (C,0)) (h2:eZ p s (b:Int)=some (toR C,0)) (hv:VS p C.state):
  ∃l e,kH p s (b:Int)=some (l,e)∧l8 p s (b:Int)=some (l,e)∧l.length≤24:=by
 have hrl:=hp.rl;have h7:=hv.badBus
 unfold kH l8
 rw [h1,h2,Option.bind_some,Option.bind_some]
 simp only [decide_true,Bool.not_true,cond_false,show(toR C).cleared=C.cleared from rfl,show(toR C).state=C.state from rfl]
 cases hcl:C.cleared with
 |false=>exact⟨[],4,rfl,rfl,by simp⟩
 |true=>
  obtain⟨L,a1,a2⟩:=Sm hp hs
  obtain⟨L',b1,b2⟩:=Sm hp (VS.bad hp hv (b:=b))
  rw [abt hp hv hb,ai (by omega)]
  simp only [Bool.not_true,cond_false,Option.bind_some,Int.toNat_natCast]
  rw [a1,a2,b1,show(⟨C.state.closed,C.state.locked,C.state.badLink,C.state.on_,C.state.badSource,C.state.earthed,C.state.badBus.set b true⟩:State)=ahJ C.state b from rfl,b2]
  simp only [Option.bind_some]
  let f:Nat→Bool:=fun k=>((kg p L k).e0||(kg p L k).e1) && !((kg p L' k).e0||(kg p L' k).e1)
  let O:Nat→List Int:=fun t=>((List.range t).filter f).map fun(k:Nat)=>(k:Int)
  have hO: ∀t,O (t+1)=O t++(if f t then [(t:Int)]else []):=fun t=>by
   show((List.range (t+1)).filter f).map _=_
   rw [List.range_succ,List.filter_append,List.map_append]
   cases h:f t<;>simp [h,O]
  have hOl: ∀t,(O t).length≤t:=fun t=>by
   show(((List.range t).filter f).map _).length≤t
   rw [List.length_map]
   have:=List.length_filter_le f (List.range t)
   rw [List.length_range]at this
   exact this
  have k1:ay (jg p (tab p.racks.length (kg p L),0) (tab p.racks.length (kg p L'),0)) FUEL (O 0,((0:Nat):Int))=some (.brk (O p.racks.length)):=by
   refine aY (body:=jg p (tab p.racks.length (kg p L),0) (tab p.racks.length (kg p L'),0)) (fun t=>(O t,(t:Int))) p.racks.length _ (fuel_lt (by omega)) (fun t ht=> ?_) ?_
   ·unfold jg oI
    have d1:decide ((t:Int)<(p.racks.length:Int))=true:=decide_eq_true (by omega)
    simp only [d1,cond_true,Int.toNat_natCast,Option.bind_some,zU]
    rw [kW ht,kW ht]
    have hl:=hOl t
    have hft:f t=(((kg p L t).e0||(kg p L t).e1) && !((kg p L' t).e0||(kg p L' t).e1)):=rfl
    rw [hO,hft]
    cases hx:((kg p L t).e0||(kg p L t).e1)with
    |false=>
     rw [show(bif gB [(false,true)]then some ((kg p L' t).e0||(kg p L' t).e1)else some default)=some false from rfl,Option.bind_some,ai ⟨by rw [aK];omega,fun _=>by rw [aK];omega⟩,wr (by omega)]
     simp
    |true=>
     rw [show(bif gB [(true,true)]then some ((kg p L' t).e0||(kg p L' t).e1)else some default)=some ((kg p L' t).e0||(kg p L' t).e1)from rfl,Option.bind_some,ai ⟨by rw [aK];omega,fun _=>by rw [aK];omega⟩,wr (by omega)]
     cases hy:((kg p L' t).e0||(kg p L' t).e1)with
     |true=>simp
     |false=>
      simp only [cond_true,Bool.not_false]
      rw [ai (by rw [List.length_singleton];omega)]
      simp
   ·unfold jg
    have d1:decide ((p.racks.length:Int)<(p.racks.length:Int))=false:=decide_eq_false (by omega)
    simp only [d1,cond_false]
  have k2:ay (jf p (tab p.racks.length (kg p L),0) (tab p.racks.length (kg p L'),0)) FUEL (O 0,((0:Nat):Int))=some (.brk (O p.racks.length)):=by
   refine aY (body:=jf p (tab p.racks.length (kg p L),0) (tab p.racks.length (kg p L'),0)) (fun t=>(O t,(t:Int))) p.racks.length _ (fuel_lt (by omega)) (fun t ht=> ?_) ?_
   ·unfold jf
    have d1:decide ((t:Int)<(p.racks.length:Int))=true:=decide_eq_true (by omega)
    simp only [d1,cond_true,Int.toNat_natCast]
    have hl:=hOl t
    have hft:f t=(((kg p L t).e0||(kg p L t).e1) && !((kg p L' t).e0||(kg p L' t).e1)):=rfl
    rw [hO,hft,ai ⟨by rw [aK];omega,fun _=>by rw [aK];omega,fun _=>by rw [aK];omega,fun _=>by rw [aK];omega⟩,kW ht,kW ht,wr (by omega)]
    cases(kg p L t).e0<;>cases(kg p L t).e1<;>cases(kg p L' t).e0<;>cases(kg p L' t).e1<;>simp only [cond_true,cond_false,Bool.or_true,Bool.or_false,Bool.true_or,Bool.false_or,Bool.not_true,Bool.not_false,Bool.and_true,Bool.and_false,Bool.true_and,Bool.false_and,if_true,List.append_nil,Bool.false_eq_true,if_false]<;>first|rfl|(rw [ai (by rw [List.length_singleton];omega)];rfl)
   ·unfold jf
    have d1:decide ((p.racks.length:Int)<(p.racks.length:Int))=false:=decide_eq_false (by omega)
    simp only [d1,cond_false]
  have k1':ay (jg p (tab p.racks.length (kg p L),0) (tab p.racks.length (kg p L'),0)) FUEL ([],0)=_:=k1
  have k2':ay (jf p (tab p.racks.length (kg p L),0) (tab p.racks.length (kg p L'),0)) FUEL ([],0)=_:=k2
  rw [k1',k2']
  exact⟨O p.racks.length,0,rfl,rfl,by have:=hOl p.racks.length;omega⟩
theorem TA (x:Link) (h:x.trip.length≤1000):oh x=some x:=by
 unfold oh qm
 rw [ai (by omega)];rfl
theorem Rq (p:ah) (h1:p.sources.length≤60) (h2:p.links.length≤60) (h3:p.racks.length≤60) (h4: ∀x∈p.links,x.trip.length≤20):mO p=some p:=by
 have key:ay (gu p.links) FUEL (p.links.take 0,((0:Nat):Int))=some (.brk (p.links.take p.links.length)):=by
  refine aY (body:=gu p.links) (fun t=>(p.links.take t,(t:Int))) p.links.length _ (fuel_lt (by omega)) (fun t ht=> ?_) ?_
  ·unfold gu
   have d1:decide ((t:Int)<(p.links.length:Int))=true:=decide_eq_true (by omega)
   simp only [d1,cond_true,Int.toNat_natCast]
   have:=h4 _ (at_mem ht)
   rw [TA _ (by omega),Option.bind_some,ai ⟨by omega,by rw [List.length_take,List.length_singleton];omega,by rw [List.length_take,List.length_singleton];omega⟩,wr (by omega),fP ht]
   rfl
  ·unfold gu
   have d1:decide ((p.links.length:Int)<(p.links.length:Int))=false:=decide_eq_false (by omega)
   simp only [d1,cond_false]
 have key':ay (gu p.links) FUEL ([],0)=_:=key
 unfold mO nL qo ql
 rw [ai (by omega),key',ai (by omega),List.take_length]
 rfl
structure aao (s:State):Prop where
 l0:s.closed.length≤140737488351232
 l1:s.locked.length≤140737488351232
 l2:s.badLink.length≤140737488351232
 l3:s.on_.length≤140737488351232
 l4:s.badSource.length≤140737488351232
 l5:s.earthed.length≤140737488351232
 l6:s.badBus.length≤140737488351232
theorem jb (l:List Bool) (h:l.length≤140737488351232):bU l=some l:=by
 unfold bU;rw [ai (by omega)]
theorem M4 (s:State) (h:aao s):gX s=some s:=by
 obtain⟨h0,h1,h2,h3,h4,h5,h6⟩:=h
 unfold gX
 rw [jb _ h0,jb _ h1,jb _ h2,jb _ h3,jb _ h4,jb _ h5,jb _ h6]
 rfl
theorem Ni (a:State) (h:aao a):gW a a=some true:=by
 obtain⟨h0,h1,h2,h3,h4,h5,h6⟩:=h
 unfold gW
 rw [dH _ _ (by omega),dH _ _ (by omega),dH _ _ (by omega),dH _ _ (by omega),dH _ _ (by omega),dH _ _ (by omega),dH _ _ (by omega)]
 simp [gB]
theorem OD (l:List Int) (h:l.length≤1000):iV l l=some true:=by
 have key:ay (kI l l) FUEL 0=some (.brk ()):=by
  refine aY (fun t=>(t:Int)) l.length _ (fuel_lt (by omega)) (fun t ht=> ?_) ?_
  ·unfold kI
   rw [decide_eq_true (show(t:Int)<(l.length:Int) by omega),cond_true,ai ⟨by omega,by omega⟩,wr (by omega)]
   simp
  ·unfold kI;simp
 unfold iV
 rw [key];simp
theorem LJ (l:List bP) (h:l.length≤1000):mV l l=some true:=by
 have key:ay (jX l l) FUEL 0=some (.brk ()):=by
  refine aY (fun t=>(t:Int)) l.length _ (fuel_lt (by omega)) (fun t ht=> ?_) ?_
  ·unfold jX
   rw [decide_eq_true (show(t:Int)<(l.length:Int) by omega),cond_true,ai ⟨by omega,by omega⟩,wr (by omega)]
   simp
  ·unfold jX;simp
 unfold mV
 rw [key];simp
theorem Ja (l:List Source) (h:l.length≤1000):kD l l=some true:=by
 have key:ay (iU l l) FUEL 0=some (.brk ()):=by
  refine aY (fun t=>(t:Int)) l.length _ (fuel_lt (by omega)) (fun t ht=> ?_) ?_
  ·unfold iU
   rw [decide_eq_true (show(t:Int)<(l.length:Int) by omega),cond_true,ai ⟨by omega,by omega⟩,wr (by omega)]
   simp
  ·unfold iU;simp
 unfold kD
 rw [key];simp
theorem Nl (l:List aJ) (h:l.length≤1000):mQ l l=some true:=by
 have key:ay (jT l l) FUEL 0=some (.brk ()):=by
  refine aY (fun t=>(t:Int)) l.length _ (fuel_lt (by omega)) (fun t ht=> ?_) ?_
  ·unfold jT
   rw [decide_eq_true (show(t:Int)<(l.length:Int) by omega),cond_true,ai ⟨by omega,by omega⟩,wr (by omega)]
   simp
  ·unfold jT;simp
 unfold mQ
 rw [key];simp
theorem Od (x:Link) (h:x.trip.length≤1000):oJ x x=some true:=by
 unfold oJ
 rw [LJ _ h];simp [gB]
theorem Nt (l:List Link) (h:l.length≤1000) (ht: ∀x∈l,x.trip.length≤1000):mK l l=some true:=by
 have key:ay (jR l l) FUEL 0=some (.brk ()):=by
  refine aY (fun t=>(t:Int)) l.length _ (fuel_lt (by omega)) (fun t htl=> ?_) ?_
  ·unfold jR
   rw [decide_eq_true (show(t:Int)<(l.length:Int) by omega),cond_true,Int.toNat_natCast,Od _ (ht _ (at_mem htl)),Option.bind_some,ai ⟨by omega,by omega⟩,wr (by omega)]
   rfl
  ·unfold jR;simp
 unfold mK
 rw [key];simp
theorem M6 (p:ah) (h1:p.sources.length≤60) (h2:p.links.length≤60) (h3:p.racks.length≤60) (h4: ∀x∈p.links,x.trip.length≤20):mW p p=some true:=by
 unfold mW
 rw [Ja _ (by omega),Nt _ (by omega) (fun x hx=>by have:=h4 x hx;omega),Nl _ (by omega)]
 simp [gB]
theorem XR (x n:Int) (hn:n≤9223372036854775807): ∃b:Int,xP x n=some b:=by
 unfold xP
 by_cases h:n<1
 ·rw [decide_eq_true h];exact⟨0,rfl⟩
 ·rw [decide_eq_false h,cond_false,ai (by omega)]
  cases decide (x.tmod n<0)<;>exact⟨_,rfl⟩
theorem YG (l:List Bool) (h:l.length≤1000000000):ay dQ FUEL (l,0)=some (.brk ()):=by
 have key:ay dQ FUEL (tab l.length (fun k=>if k<0 then !at' l k else at' l k),((0:Nat):Int))=some (.brk ()):=by
  refine aY (body:=dQ) (fun t=>(tab l.length (fun k=>if k<t then !at' l k else at' l k),(t:Int))) l.length _ (fuel_lt (by omega)) (fun t ht=> ?_) ?_
  ·unfold dQ
   simp only [aK]
   rw [decide_eq_true (show(t:Int)<(l.length:Int) by omega),cond_true,ai (by omega),wr (by omega),Int.toNat_natCast,kW ht,if_neg (Nat.lt_irrefl _),BP]
   congr 2
   rw [Prod.mk.injEq]
   refine⟨dw fun v hv=> ?_,by omega⟩
   by_cases e:v=t
   ·subst e;rw [if_pos rfl,if_pos (by omega)]
   ·rw [if_neg e]
    by_cases q:v<t
    ·rw [if_pos q,if_pos (by omega)]
    ·rw [if_neg q,if_neg (by omega)]
  ·unfold dQ
   simp only [aK]
   rw [decide_eq_false (show ¬ (l.length:Int)<(l.length:Int) by omega),cond_false]
 have e0:(tab l.length fun k=>if k<0 then !at' l k else at' l k)=l:=by
  rw [dw (g:=at' l) fun v _=>if_neg (Nat.not_lt_zero v),aaK]
 rw [e0]at key
 exact key
theorem Uy {p:ah} (hp:Small p) (s:State) (bus:Int): ∃(C:bg) (e:Int),dG p s bus=some (C,e)∧eZ p s bus=some (toR C,e)∧C.events.length≤1000∧F4 C.state∧
  (∃r,fA p s bus=some r∧iY p s bus=some r)∧ ∃l e',kH p s bus=some (l,e')∧l8 p s bus=some (l,e')∧l.length≤24:=by
 by_cases h:su p s=0∧0≤bus∧bus<p.buses
 ·obtain⟨h0,hb0,hb1⟩:=h
  obtain⟨hv,hs⟩:=ou.mp h0
  obtain⟨b,rfl⟩: ∃b:Nat,bus=(b:Int):=⟨bus.toNat,by omega⟩
  obtain⟨C,h1,h2,h3,h4,_,h5⟩:=V4 hv (b:=b) hb1 hs
  exact⟨C,0,h1,h2,by omega,h4.small hv,DN h1 h2 (fun h=>absurd rfl h) (by omega) h5,ZH hv hs hb1 h1 h2 h4⟩
 ·obtain⟨C,e,he,hC,h1,h2⟩:=Yr hp (s:=s) (b:=bus) (by
   by_cases h0:su p s=0
   ·right
    by_cases hb:bus<0
    ·exact .inl hb
    ·right
     by_cases hb2:p.buses≤bus
     ·exact hb2
     ·exact absurd ⟨h0,by omega,by omega⟩ h
   ·exact .inl h0)
  refine⟨C,e,h1,h2,by rw [hC];simp,by rw [hC];exact⟨by simp,by simp,by simp,by simp,by simp,by simp,by simp⟩,DN h1 h2 (fun _=>by rw [hC]) (by rw [hC];simp) (by rw [hC];simp),[],e, ?_, ?_,by simp⟩
  ·unfold kH
   rw [h1,Option.bind_some]
   simp only [decide_eq_false he]
   rfl
  ·unfold l8
   rw [h2,Option.bind_some]
   simp only [decide_eq_false he]
   rfl
theorem Ji (p:ah) (s:State) (bus:Int) (hp:Small p) (hb:p.buses≤9223372036854775807) (hs:aao s):jl p s bus=some true:=by
 unfold jl
 obtain⟨B,hB,hB2⟩:=ace hp
 rw [hB,Option.bind_some,WB]
 cases B with
 |true=>rfl
 |false=>
  obtain⟨b1,b2,b3,b4⟩:=hB2 rfl
  obtain⟨q,hq⟩:=XR bus p.buses hb
  rw [cond_false,Rq p b1 b2 b3 b4,Option.bind_some,M4 s hs,Option.bind_some,hq,Option.bind_some]
  have key:ay (gQ p s bus p s q) FUEL 0=some (.brk ()):=by
   refine aY (fun t=>(t:Int)) 2 _ (fuel_lt (by omega)) (fun t ht=> ?_) ?_
   ·unfold gQ
    have hlen:[bus,q].length=2:=rfl
    rw [decide_eq_true (show(t:Int)<([bus,q].length:Int) by omega),cond_true,ai (by omega),wr (by omega)]
    generalize at' [bus,q] (t:Int).toNat=x
    obtain⟨C,e,h1,h2,h3,h4,⟨r,r1,r2⟩,l,e',l1,l2,l3⟩:=Uy hp s x
    rw [h1,h2,r1,r2,l1,l2]
    simp only [Option.bind_some,decide_true,Bool.not_true]
    rw [show(bif gB [(false,false)]then mG C (toR C)else some default)=mG C (toR C)from rfl,Yd C h3 h4,Option.bind_some]
    simp only [Bool.not_true,cond_false]
    rw [YG _ h4.l1]
    simp only [Option.bind_some]
    rw [show(bif gB [(false,false)]then iV l l else some default)=iV l l from rfl,OD l (by omega)]
    simp
   ·unfold gQ
    rfl
  rw [key]
  simp only [Option.bind_some]
  rw [M6 p b1 b2 b3 b4,Ni s hs]
  simp [gB]
end Sg
