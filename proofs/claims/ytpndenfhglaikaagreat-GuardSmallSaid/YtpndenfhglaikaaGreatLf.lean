import Derived.Test.YtpndenfhglaikaaGreatLe
set_option linter.all false
namespace Sg
open Go
def Ch (hd:List (Int × Int)):Nat→Int→Int→Prop
 |0,x,r=>bH dS x hd=none∧r=x
 |k+1,x,r=> ∃y,bH dS x hd=some y∧Ch hd k y r
theorem of_run {hd:List (Int × Int)}: ∀(k:Nat) (x r:Int),Ch hd k x r→av (eF ⟨hd⟩) (k+1) x=some (.ret r)
 |0,x,r,h=>by
  obtain⟨h,e⟩:=h
  rw [aT];unfold eF;simp [h,e]
 |k+1,x,r,h=>by
  obtain⟨y,h,hc⟩:=h
  have:eF ⟨hd⟩ x=some (.next y):=by unfold eF;simp [h]
  rw [aT,this]
  exact of_run k y r hc
theorem of_eq {hd:List (Int × Int)} {k:Nat} {x r:Int} (h:Ch hd k x r) (hk:k≤1000):bX ⟨hd⟩ x=some r:=by
 unfold bX
 rw [iF (of_run k x r h) (by unfold FUEL;omega)];rfl
theorem Ch.root {hd:List (Int × Int)}: ∀{k:Nat} {x r:Int},Ch hd k x r→bH dS r hd=none
 |0,x,r,h=>by obtain⟨h,e⟩:=h;rw [e];exact h
 |k+1,x,r,h=>by obtain⟨y,_,hc⟩:=h;exact hc.root
theorem Ch.set {hd:List (Int × Int)} {a b:Int} (hab:a≠b) (ha:bH dS a hd=none) (hb:bH dS b hd=none): ∀{k:Nat} {x r:Int},Ch hd k x r→
  ∃k',k'≤k+1∧Ch (gY dS a b hd) k' x (if r=a then b else r)
 |0,x,r,h=>by
  obtain⟨h,e⟩:=h
  subst e
  by_cases e:r=a
  ·subst e
   rw [if_pos rfl]
   exact⟨1,by omega,b,iD _ _ _,by rw [jm (Ne.symm hab)];exact hb,rfl⟩
  ·rw [if_neg e]
   exact⟨0,by omega,by rw [jm e];exact h,rfl⟩
 |k+1,x,r,h=>by
  obtain⟨y,h,hc⟩:=h
  obtain⟨k',hk,hc'⟩:=hc.set hab ha hb
  have:x≠a:=fun e=>by rw [e,ha]at h;cases h
  exact⟨k'+1,by omega,y,by rw [jm this];exact h,hc'⟩
section
variable {p:ai} {s:State}
theorem Wk.trans {u v w:Nat} {l m:List Int} (h:Wk p s u l v) (h':Wk p s v m w):Wk p s u (l++m) w:=by
 induction h' with
 |nil=>simpa using h
 |snoc _ hi hc he ih=>rw [←List.append_assoc];exact ih.snoc hi hc he
theorem Wk.symm {u v:Nat} {l:List Int} (h:Wk p s u l v): ∃m,Wk p s v m u:=by
 induction h with
 |nil=>exact⟨[], .nil⟩
 |snoc _ hi hc he ih=>
  obtain⟨m,hm⟩:=ih
  exact⟨_,(Wk.nil.snoc hi hc (he.symm.imp id id|>.elim (fun⟨a,b⟩=> .inl ⟨b,a⟩) fun⟨a,b⟩=> .inr ⟨b,a⟩)).trans hm⟩
def uI (p:ai) (s:State):Nat→List (Int × Int) × (Int→Int)
 |0=>([],id)
 |n+1=>
  let q:=uI p s n
  if dX p s n=true∧q.2 (at' p.links n).a≠q.2 (at' p.links n).b then
   (gY dS (q.2 (at' p.links n).a) (q.2 (at' p.links n).b) q.1,fun x=>if q.2 x=q.2 (at' p.links n).a then q.2 (at' p.links n).b else q.2 x)
  else q
structure UF (p:ai) (s:State) (n:Nat) (hd:List (Int × Int)) (f:Int→Int):Prop where
 ch: ∀x,∃k,k≤n∧Ch hd k x (f x)
 cn: ∀x:Nat,(x:Int)<p.buses→0≤f x∧f x<p.buses∧ ∃l,Wk p s x l (f x).toNat
 ed: ∀i,i<n→dX p s i=true→f (at' p.links i).a=f (at' p.links i).b
theorem uf (hp:VP p): ∀n,n≤p.links.length→UF p s n (uI p s n).1 (uI p s n).2
 |0,_=> ⟨fun x=> ⟨0,Nat.le_refl _,rfl,rfl⟩,fun x hx=> ⟨by show(0:Int)≤x;omega,hx,[],by show Wk p s x [] ((x:Int).toNat);simp;exact .nil⟩,fun i hi=>absurd hi (Nat.not_lt_zero _)⟩
 |n+1,hn=>by
  have h:=uf hp n (by omega)
  have hl:=hp.lnk n (by omega)
  unfold uI
  by_cases hc:dX p s n=true∧(uI p s n).2 (at' p.links n).a≠(uI p s n).2 (at' p.links n).b
  ·rw [if_pos hc]
   obtain⟨hc1,hc2⟩:=hc
   obtain⟨ka,_,ca⟩:=h.ch (at' p.links n).a
   obtain⟨kb,_,cb⟩:=h.ch (at' p.links n).b
   refine⟨fun x=> ?_,fun x hx=> ?_,fun i hi hci=> ?_⟩
   ·obtain⟨k,hk,c⟩:=h.ch x
    obtain⟨k',hk',c'⟩:=c.set hc2 ca.root cb.root
    exact⟨k',by omega,c'⟩
   ·obtain⟨h0,h1,l,hw⟩:=h.cn x hx
    simp only
    by_cases e:(uI p s n).2 x=(uI p s n).2 (at' p.links n).a
    ·rw [if_pos e]
     have ha:=hl.a;have hb:=hl.b
     obtain⟨_,_,la,wa⟩:=h.cn (at' p.links n).a.toNat (by omega)
     obtain⟨b0,b1,lb,wb⟩:=h.cn (at' p.links n).b.toNat (by omega)
     have ea:(((at' p.links n).a.toNat:Nat):Int)=(at' p.links n).a:=by omega
     have eb:(((at' p.links n).b.toNat:Nat):Int)=(at' p.links n).b:=by omega
     rw [ea,←e]at wa
     rw [eb]at wb b0 b1
     obtain⟨m,wm⟩:=wa.symm
     refine⟨b0,b1,_,((hw.trans wm).snoc (by omega) hc1 (.inl ⟨rfl,rfl⟩)).trans wb⟩
    ·rw [if_neg e];exact⟨h0,h1,l,hw⟩
   ·simp only
    by_cases e:i=n
    ·subst e;rw [if_pos rfl]
     by_cases e2:(uI p s i).2 (at' p.links i).b=(uI p s i).2 (at' p.links i).a
     ·rw [if_pos e2]
     ·rw [if_neg e2]
    ·rw [h.ed i (by omega) hci]
  ·rw [if_neg hc]
   refine⟨fun x=> ?_,h.cn,fun i hi hci=> ?_⟩
   ·obtain⟨k,hk,c⟩:=h.ch x;exact⟨k,by omega,c⟩
   ·by_cases e:i=n
    ·subst e
     by_cases e2:(uI p s i).2 (at' p.links i).a=(uI p s i).2 (at' p.links i).b
     ·exact e2
     ·exact absurd ⟨hci,e2⟩ hc
    ·exact h.ed i (by omega) hci
def mo (p:ai) (s:State) (x:Nat):Int:=(uI p s p.links.length).2 x
theorem Ji (hp:VP p) {u v:Nat} (hu:(u:Int)<p.buses) (hv:(v:Int)<p.buses):mo p s u=mo p s v↔ ∃l,Wk p s u l v:=by
 have h:=uf (s:=s) hp p.links.length (Nat.le_refl _)
 constructor
 ·intro e
  obtain⟨_,_,l,w⟩:=h.cn u hu
  obtain⟨_,_,m,w'⟩:=h.cn v hv
  obtain⟨m',w''⟩:=w'.symm
  have:(uI p s p.links.length).2 u=(uI p s p.links.length).2 v:=e
  rw [this]at w
  exact⟨_,w.trans w''⟩
 ·rintro ⟨l,w⟩
  clear hv
  induction w with
  |nil=>rfl
  |snoc w hi hc he ih=>
   rename_i i
   rw [ih]
   have hl:=hp.lnk i hi
   have ha:=hl.a;have hb:=hl.b
   have ed:=h.ed i hi hc
   unfold mo
   rcases he with⟨e1,e2⟩|⟨e1,e2⟩
   ·rw [←e1,←e2,Int.toNat_of_nonneg (by omega),Int.toNat_of_nonneg (by omega),ed]
   ·rw [←e1,←e2,Int.toNat_of_nonneg (by omega),Int.toNat_of_nonneg (by omega),ed]
theorem Lv (hp:VP p) (x:Int):bX ⟨(uI p s p.links.length).1⟩ x=some ((uI p s p.links.length).2 x):=by
 obtain⟨k,hk,c⟩:=(uf (s:=s) hp p.links.length (Nat.le_refl _)).ch x
 have:=hp.ll
 exact of_eq c (by omega)
theorem join_eq (hp:VP p) {n:Nat} (hn:n<p.links.length) (hc:dX p s n=true):jM ⟨(uI p s n).1⟩ (at' p.links n).a (at' p.links n).b=some (uI p s (n+1)).1:=by
 have h:=uf (s:=s) hp n (by omega)
 have:=hp.ll
 obtain⟨ka,_,ca⟩:=h.ch (at' p.links n).a
 obtain⟨kb,_,cb⟩:=h.ch (at' p.links n).b
 unfold jM
 rw [of_eq ca (by omega),of_eq cb (by omega)]
 simp only [Option.bind_some]
 rw [uI]
 by_cases e:(uI p s n).2 (at' p.links n).a=(uI p s n).2 (at' p.links n).b
 ·simp [e]
 ·simp [e,hc]
end
theorem sH {α:Type} [Inhabited α] {l m:List α} {j:Nat} (h:j<l.length):at' (l++m) j=at' l j:=by
 rw [gG (by rw [List.length_append];omega),gG h,List.getElem_append_left]
theorem uJ {α:Type} [Inhabited α] (l:List α) (x:α):at' (l++[x]) l.length=x:=by
 rw [gG (by simp)];simp
section
variable {p:ai} {s:State} (hp:VP p) (hs:VS p s)
include hp hs
theorem Ma {i:Nat} (hi:i<p.links.length):dz p.links s.closed s.badLink s.badBus ((uI p s i).1,(i:Int))=some (.next ((uI p s (i+1)).1,((i+1:Nat):Int))):=by
 have hl:=hp.lnk i hi
 have ha:=hl.a;have hb:=hl.b;have h1:=hs.closed;have h2:=hs.badLink;have h3:=hs.badBus;have hll:=hp.ll
 have hd:decide ((i:Int)<(p.links.length:Int))=true:=decide_eq_true (by omega)
 have hcb:(bif (bif (bif (at' s.closed i)then(!(at' s.badLink i))else false)then(!(at' s.badBus (((at' p.links i).a).toNat)))else false)then(!(at' s.badBus (((at' p.links i).b).toNat)))else false)=dX p s i:=by
  unfold dX
  cases at' s.closed i<;>cases at' s.badLink i<;>cases at' s.badBus (at' p.links i).a.toNat<;>cases at' s.badBus (at' p.links i).b.toNat<;>rfl
 unfold dz
 simp only [Int.toNat_natCast]
 rw [hd,cond_true,aj (by omega),hcb]
 cases hc:dX p s i with
 |true=>
  rw [cond_true]
  unfold lK
  rw [join_eq hp hi hc]
  simp only [Option.bind_some]
  rw [aj ⟨by omega,fun _=>by omega,fun _=>by omega,fun _=>by omega⟩,wr (by omega)]
  rfl
 |false=>
  rw [cond_false,aj ⟨by omega,fun _=>by omega,fun _=>by omega,fun _=>by omega⟩,wr (by omega)]
  have:uI p s (i+1)=uI p s i:=by rw [uI];simp [hc]
  rw [this];rfl
theorem EB:lG p.buses p.sources p.links p.racks s.closed s.locked s.badLink s.on_ s.badSource s.earthed s.badBus ⟨[]⟩=some ⟨(uI p s p.links.length).1⟩:=by
 have hll:=hp.ll
 have key:av (dz p.links s.closed s.badLink s.badBus) FUEL ((uI p s 0).1,((0:Nat):Int))=some (.brk (uI p s p.links.length).1):=by
  refine aH (fun i=>((uI p s i).1,(i:Int))) p.links.length _ (fuel_lt (by omega)) (fun i hi=>Ma hp hs hi) ?_
  unfold dz
  simp
 show(av (dz p.links s.closed s.badLink s.badBus) FUEL ((uI p s 0).1,((0:Nat):Int))).bind _=_
 rw [key];rfl
omit hs
structure II (p:ai) (s:State) (t n:Nat) (out:List aN) (m:List (Int × Int)):Prop where
 ix: ∀h i,bH dS h m=some i→0≤i∧i<(out.length:Int)
 inj: ∀h h' i,bH dS h m=some i→bH dS h' m=some i→h=h'
 cov: ∀b:Nat,b<t→at' s.badBus b=false→ ∃j:Nat,bH dS (mo p s b) m=some (j:Int)∧(b:Int)∈(at' out j).buses
 mem: ∀j,j<out.length→ ∀x∈(at' out j).buses,∃b:Nat,x=b∧b<t∧at' s.badBus b=false∧bH dS (mo p s b) m=some (j:Int)
 src: ∀j,j<out.length→(at' out j).sources=[]
 len:out.length≤n
 bl: ∀j,j<out.length→(at' out j).buses.length≤t
omit hp
theorem II.fresh {t n:Nat} {out:List aN} {m:List (Int × Int)} {h0:Int} (g:II p s t n out m) (hn:bH dS h0 m=none):II p s t (n+1) (out++[⟨[],[]⟩]) (gY dS h0 (out.length:Int) m):=by
 have old: ∀h i,h≠h0→bH dS h (gY dS h0 (out.length:Int) m)=some i→bH dS h m=some i:=fun h i e q=>by rwa [jm e]at q
 refine⟨fun h i q=> ?_,fun h h' i q q'=> ?_,fun b hb hbad=> ?_,fun j hj x hx=> ?_,fun j hj=> ?_, ?_,fun j hj=> ?_⟩
 ·rw [List.length_append]
  by_cases e:h=h0
  ·subst e;rw [iD]at q;cases q;simp;omega
  ·have:=g.ix h i (old h i e q);simp;omega
 ·by_cases e:h=h0
  ·subst e;rw [iD]at q;cases q
   by_cases e':h'=h
   ·exact e'.symm
   ·have:=g.ix h' _ (old h' _ e' q');omega
  ·by_cases e':h'=h0
   ·subst e';rw [iD]at q';cases q'
    have:=g.ix h _ (old h _ e q);omega
   ·exact g.inj h h' i (old h i e q) (old h' i e' q')
 ·obtain⟨j,q,hx⟩:=g.cov b hb hbad
  have e:mo p s b≠h0:=fun e=>by rw [e,hn]at q;cases q
  have:=g.ix _ _ q
  exact⟨j,by rw [jm e];exact q,by rw [sH (by omega)];exact hx⟩
 ·rw [List.length_append]at hj
  by_cases e:j<out.length
  ·rw [sH e]at hx
   obtain⟨b,h1,h2,h3,q⟩:=g.mem j e x hx
   have e:mo p s b≠h0:=fun e=>by rw [e,hn]at q;cases q
   exact⟨b,h1,h2,h3,by rw [jm e];exact q⟩
  ·have:j=out.length:=by simp at hj;omega
   subst this
   rw [uJ]at hx;simp at hx
 ·rw [List.length_append]at hj
  by_cases e:j<out.length
  ·rw [sH e];exact g.src j e
  ·have:j=out.length:=by simp at hj;omega
   subst this;rw [uJ]
 ·rw [List.length_append];have:=g.len;simp;omega
 ·rw [List.length_append]at hj
  by_cases e:j<out.length
  ·rw [sH e];exact g.bl j e
  ·have:j=out.length:=by simp at hj;omega
   subst this;rw [uJ];simp
theorem II.add {t n:Nat} {out:List aN} {m:List (Int × Int)} (g:II p s t n out m) (hbad:at' s.badBus t=false) {j:Nat} (hj:bH dS (mo p s t) m=some (j:Int)):
  II p s (t+1) n (out.set j ⟨(at' out j).buses++[(t:Int)],(at' out j).sources⟩) m:=by
 have hjl:=(g.ix _ _ hj).2
 refine⟨fun h i q=>by rw [List.length_set];exact g.ix h i q,g.inj,fun b hb hbb=> ?_,fun i hi x hx=> ?_,fun i hi=> ?_,by rw [List.length_set];exact g.len,fun i hi=> ?_⟩
 ·by_cases e:b=t
  ·subst e
   exact⟨j,hj,by rw [bG (by omega)];simp⟩
  ·obtain⟨i,q,hx⟩:=g.cov b (by omega) hbb
   refine⟨i,q, ?_⟩
   by_cases e2:j=i
   ·subst e2;rw [bG (by omega)];simp [hx]
   ·rw [bP e2];exact hx
 ·rw [List.length_set]at hi
  by_cases e2:j=i
  ·subst e2
   rw [bG (by omega)]at hx
   rcases List.mem_append.mp hx with hx|hx
   ·obtain⟨b,h1,h2,h3,q⟩:=g.mem j hi x hx
    exact⟨b,h1,by omega,h3,q⟩
   ·simp at hx
    exact⟨t,hx,by omega,hbad,hj⟩
  ·rw [bP e2]at hx
   obtain⟨b,h1,h2,h3,q⟩:=g.mem i hi x hx
   exact⟨b,h1,by omega,h3,q⟩
 ·rw [List.length_set]at hi
  by_cases e2:j=i
  ·subst e2;rw [bG (by omega)];exact g.src j hi
  ·rw [bP e2];exact g.src i hi
 ·rw [List.length_set]at hi
  have:=g.bl i hi
  by_cases e2:j=i
  ·subst e2;rw [bG (by omega)];simp;omega
  ·rw [bP e2];omega
include hp hs
theorem OT {t:Nat} (ht:(t:Int)<p.buses) {out:List aN} {m:List (Int × Int)} (g:II p s t t out m):
  ∃out' m',fG p s ⟨(uI p s p.links.length).1⟩ (out,m,(t:Int))=some (.next (out',m',((t+1:Nat):Int)))∧II p s (t+1) (t+1) out' m':=by
 have h3:=hs.badBus;have hb:=hp.b
 have hd:decide ((t:Int)<p.buses)=true:=decide_eq_true ht
 have hlen:=g.len
 unfold fG
 simp only [Int.toNat_natCast]
 rw [hd,cond_true,aj (by omega)]
 cases hbad:at' s.badBus t with
 |true=>
  refine⟨out,m,by rw [cond_true,wr (by omega)];rfl,g.ix,g.inj,fun b hb' hbb=> ?_,fun j hj x hx=> ?_,g.src,by omega,fun j hj=> ?_⟩
  ·have:b≠t:=fun e=>by rw [e,hbad]at hbb;cases hbb
   exact g.cov b (by omega) hbb
  ·obtain⟨b,h1,h2,h3,q⟩:=g.mem j hj x hx
   exact⟨b,h1,by omega,h3,q⟩
  ·have:=g.bl j hj;omega
 |false=>
  rw [cond_false,Lv hp,Option.bind_some]
  have eh:(uI p s p.links.length).2 (t:Int)=mo p s t:=rfl
  rw [eh]
  cases hq:bH dS (mo p s t) m with
  |some i=>
   obtain⟨i0,i1⟩:=g.ix _ _ hq
   obtain⟨j,rfl⟩: ∃j:Nat,i=(j:Int):=⟨i.toNat,by omega⟩
   have hbl:=g.bl j (by omega)
   refine⟨_,_, ?_,⟨(g.add hbad hq).ix,g.inj,(g.add hbad hq).cov,(g.add hbad hq).mem,(g.add hbad hq).src,by have:=(g.add hbad hq).len;omega,(g.add hbad hq).bl⟩⟩
   simp only [Option.isSome_some,Bool.not_true,cond_false,Option.getD_some,Int.toNat_natCast]
   rw [aj ⟨by omega,by simp;omega,by simp;omega⟩,wr (by omega)]
   rfl
  |none=>
   have g':=g.fresh hq
   have hj:bH dS (mo p s t) (gY dS (mo p s t) (out.length:Int) m)=some (out.length:Int):=iD _ _ _
   have g2:=g'.add hbad hj
   refine⟨_,_, ?_,g2⟩
   simp only [Option.isSome_none,Bool.not_false,cond_true,hj,Option.getD_some,Int.toNat_natCast,uJ]
   rw [aj ⟨by simp;omega,by simp;omega⟩,aj ⟨by simp;omega,by simp⟩,wr (by omega)]
   rfl
theorem Tt: ∀(d t:Nat) (out:List aN) (m:List (Int × Int)),((t+d:Nat):Int)=p.buses→II p s t t out m→
  ∃out' m',av (fG p s ⟨(uI p s p.links.length).1⟩) (d+1) (out,m,(t:Int))=some (.brk (out',m'))∧II p s p.buses.toNat p.buses.toNat out' m':=by
 intro d
 induction d with
 |zero=>
  intro t out m ht g
  refine⟨out,m, ?_,by
   have:p.buses.toNat=t:=by omega
   rw [this];exact g⟩
  rw [aT]
  have hd:decide ((t:Int)<p.buses)=false:=decide_eq_false (by omega)
  unfold fG
  simp only
  rw [hd];rfl
 |succ d ih=>
  intro t out m ht g
  obtain⟨out1,m1,h1,g1⟩:=OT hp hs (by omega) g
  obtain⟨out2,m2,h2,g2⟩:=ih (t+1) out1 m1 (by omega) g1
  exact⟨out2,m2,by rw [aT,h1];exact h2,g2⟩
structure JJ (p:ai) (s:State) (m:List (Int × Int)) (o:List aN) (k:Nat) (out:List aN):Prop where
 len:out.length=o.length
 bus: ∀j,j<out.length→(at' out j).buses=(at' o j).buses
 src: ∀j,j<out.length→((at' out j).sources≠[]↔ ∃i,i<k∧oQ p s i=true∧bH dS (mo p s (at' p.sources i).bus.toNat) m=some (j:Int))
 sl: ∀j,j<out.length→(at' out j).sources.length≤k
theorem NK {o:List aN} {m:List (Int × Int)} (g:II p s p.buses.toNat p.buses.toNat o m) {k:Nat} (hk:k<p.sources.length) {out:List aN} (q:JJ p s m o k out):
  ∃out',fH p s ⟨(uI p s p.links.length).1⟩ m (out,(k:Int))=some (.next (out',((k+1:Nat):Int)))∧JJ p s m o (k+1) out':=by
 have hl:=(hp.src k hk).bus;have h1:=hs.on;have h2:=hs.badSource;have h3:=hs.badBus;have h4:=hp.sl
 have hd:decide ((k:Int)<(p.sources.length:Int))=true:=decide_eq_true (by omega)
 have hcb:(bif (bif (at' s.on_ k)then(!(at' s.badSource k))else false)then(!(at' s.badBus (((at' p.sources k).bus).toNat)))else false)=oQ p s k:=by
  unfold oQ
  cases at' s.on_ k<;>cases at' s.badSource k<;>cases at' s.badBus (at' p.sources k).bus.toNat<;>rfl
 unfold fH
 simp only [Int.toNat_natCast]
 rw [hd,cond_true,aj (by omega),aj ⟨by omega,fun _=>by omega,fun _=>by omega⟩,hcb]
 cases hf:oQ p s k with
 |false=>
  refine⟨out,by rw [cond_false,wr (by omega)];rfl,q.len,q.bus,fun j hj=> ?_,fun j hj=>by have:=q.sl j hj;omega⟩
  rw [q.src j hj]
  constructor
  ·rintro ⟨i,h1,h2,h3⟩;exact⟨i,by omega,h2,h3⟩
  ·rintro ⟨i,h1,h2,h3⟩
   have:i≠k:=fun e=>by rw [e,hf]at h2;cases h2
   exact⟨i,by omega,h2,h3⟩
 |true=>
  have hbad:at' s.badBus (at' p.sources k).bus.toNat=false:=by
   unfold oQ at hf
   revert hf
   cases at' s.badBus (at' p.sources k).bus.toNat<;>simp
  obtain⟨j,hj,_⟩:=g.cov (at' p.sources k).bus.toNat (by omega) hbad
  have hjl:=(g.ix _ _ hj).2
  have hlen:=q.len
  have hsl:=q.sl j (by omega)
  have eh:(uI p s p.links.length).2 (at' p.sources k).bus=mo p s (at' p.sources k).bus.toNat:=by unfold mo;rw [Int.toNat_of_nonneg (by omega)]
  rw [cond_true,Lv hp,Option.bind_some,eh,hj]
  simp only [Option.getD_some,Int.toNat_natCast]
  rw [aj ⟨by omega,by simp;omega,by simp;omega⟩,wr (by omega)]
  refine⟨_,rfl,by rw [List.length_set];exact q.len,fun i hi=> ?_,fun i hi=> ?_,fun i hi=> ?_⟩
  ·rw [List.length_set]at hi
   by_cases e:j=i
   ·subst e;rw [bG (by omega)];exact q.bus j hi
   ·rw [bP e];exact q.bus i hi
  ·rw [List.length_set]at hi
   by_cases e:j=i
   ·subst e;rw [bG (by omega)]
    simp only [ne_eq,List.append_eq_nil_iff,List.cons_ne_nil,and_false,not_false_eq_true,true_iff]
    exact⟨k,by omega,hf,hj⟩
   ·rw [bP e,q.src i hi]
    constructor
    ·rintro ⟨i',h1,h2,h3⟩;exact⟨i',by omega,h2,h3⟩
    ·rintro ⟨i',h1,h2,h3⟩
     have:i'≠k:=fun e'=>by
      rw [e',hj]at h3
      have:=Option.some.inj h3
      omega
     exact⟨i',by omega,h2,h3⟩
  ·rw [List.length_set]at hi
   have:=q.sl i hi
   by_cases e:j=i
   ·subst e;rw [bG (by omega)];simp;omega
   ·rw [bP e];omega
theorem RP {o:List aN} {m:List (Int × Int)} (g:II p s p.buses.toNat p.buses.toNat o m): ∀(d k:Nat) (out:List aN),k+d=p.sources.length→JJ p s m o k out→
  ∃out',av (fH p s ⟨(uI p s p.links.length).1⟩ m) (d+1) (out,(k:Int))=some (.brk out')∧JJ p s m o p.sources.length out':=by
 intro d
 induction d with
 |zero=>
  intro k out hk q
  refine⟨out, ?_,by
   have:p.sources.length=k:=by omega
   rw [this];exact q⟩
  rw [aT]
  have hd:decide ((k:Int)<(p.sources.length:Int))=false:=decide_eq_false (by omega)
  unfold fH
  simp only
  rw [hd];rfl
 |succ d ih=>
  intro k out hk q
  obtain⟨out1,h1,q1⟩:=NK hp hs g (by omega) q
  obtain⟨out2,h2,q2⟩:=ih (k+1) out1 (by omega) q1
  exact⟨out2,by rw [aT,h1];exact h2,q2⟩
theorem KX: ∃out o m,mJ p s=some out∧II p s p.buses.toNat p.buses.toNat o m∧JJ p s m o p.sources.length out:=by
 have hb:=hp.b;have h4:=hp.sl
 obtain⟨o,m,h1,g⟩:=Tt hp hs p.buses.toNat 0 [] [] (by omega) ⟨fun h i q=>by simp [bH]at q,fun h h' i q=>by simp [bH]at q,fun b hb=>absurd hb (Nat.not_lt_zero _),fun j hj=>by simp at hj,fun j hj=>by simp at hj,Nat.le_refl _,fun j hj=>by simp at hj⟩
 obtain⟨out,h2,q⟩:=RP hp hs g p.sources.length 0 o (by omega) ⟨rfl,fun _ _=>rfl,fun j hj=>by rw [g.src j hj];simp,fun j hj=>by rw [g.src j hj];simp⟩
 refine⟨out,o,m, ?_,g,q⟩
 unfold mJ
 simp only [nk,Option.bind_some]
 rw [EB hp hs,Option.bind_some]
 have e1:av (fG p s ⟨(uI p s p.links.length).1⟩) FUEL (([]:List aN),([]:List (Int × Int)),0)=some (.brk (o,m)):=iF h1 (by unfold FUEL;omega)
 have e2:av (fH p s ⟨(uI p s p.links.length).1⟩ m) FUEL (o,0)=some (.brk out):=iF h2 (by unfold FUEL;omega)
 rw [e1]
 simp only [Option.bind_some]
 rw [e2]
 rfl
end
def mY (v:Bool) (o:List Bool) (l:List Int):List Bool:=l.foldl (fun o x=>o.set x.toNat v) o
theorem sP (v:Bool): ∀(l:List Int) (o:List Bool),(mY v o l).length=o.length
 |[],_=>rfl
 |x::l,o=>by
  show(mY v (o.set x.toNat v) l).length=_
  rw [sP v l,List.length_set]
theorem JF (v:Bool) (o:List Bool) (l:List Int) (x:Int):mY v o (l++[x])=(mY v o l).set x.toNat v:=by simp [mY]
theorem ES (v:Bool): ∀(l:List Int) (o:List Bool) (j:Nat),(∀x∈l,0≤x)→j<o.length→at' (mY v o l) j=if(j:Int)∈l then v else at' o j
 |[],o,j,_,_=>by simp [mY]
 |x::l,o,j,h,hj=>by
  show at' (mY v (o.set x.toNat v) l) j=_
  rw [ES v l _ j (fun y hy=>h y (List.mem_cons_of_mem _ hy)) (by rw [List.length_set];exact hj)]
  have hx:=h x List.mem_cons_self
  by_cases e:(j:Int)∈l
  ·rw [if_pos e,if_pos (List.mem_cons_of_mem _ e)]
  ·rw [if_neg e]
   by_cases e2:x.toNat=j
   ·subst e2
    rw [bG hj,if_pos (by rw [Int.toNat_of_nonneg hx];exact List.mem_cons_self)]
   ·rw [bP e2,if_neg]
    intro hm
    rcases List.mem_cons.mp hm with h1|h1
    ·omega
    ·exact e h1
def Dj (n:Nat) (l:List aN):List Bool:=l.foldl (fun o x=>mY (decide (0<(x.sources.length:Int))) o x.buses) (List.replicate n false)
theorem Fx (n:Nat) (l:List aN) (x:aN):Dj n (l++[x])=mY (decide (0<(x.sources.length:Int))) (Dj n l) x.buses:=by simp [Dj]
theorem wJ (n:Nat) (l:List aN):(Dj n l).length=n:=by
 unfold Dj
 suffices∀(l:List aN) (o:List Bool),(l.foldl (fun o x=>mY (decide (0<(x.sources.length:Int))) o x.buses) o).length=o.length by rw [this];simp
 intro l
 induction l with
 |nil=>intro o;rfl
 |cons x l ih=>intro o;rw [List.foldl_cons,ih,sP]
def Cz (p:ai) (s:State) (b:Nat):Prop:=at' s.badBus b=false∧ ∃k,k<p.sources.length∧oQ p s k=true∧ ∃l,Wk p s (at' p.sources k).bus.toNat l b
section
variable {p:ai} {s:State} (hp:VP p) (hs:VS p s)
include hp hs
theorem QA {out:List aN} {j:Nat} (hj:j<out.length) (hx: ∀x∈(at' out j).buses,0≤x∧x<p.buses) (hl:(at' out j).buses.length≤1000) {o:List Bool} (ho:(o.length:Int)=p.buses):
  av (kG out (j:Int)) FUEL (o,0)=some (.brk (mY (decide (0<((at' out j).sources.length:Int))) o (at' out j).buses)):=by
 have key:av (kG out (j:Int)) FUEL (mY (decide (0<((at' out j).sources.length:Int))) o ((at' out j).buses.take 0),((0:Nat):Int))=some (.brk (mY (decide (0<((at' out j).sources.length:Int))) o (at' out j).buses)):=by
  refine aH (fun i=>(mY (decide (0<((at' out j).sources.length:Int))) o ((at' out j).buses.take i),(i:Int))) (at' out j).buses.length _ (fuel_lt (by omega)) (fun i hi=> ?_) ?_
  ·have hd:decide ((i:Int)<((at' out j).buses.length:Int))=true:=decide_eq_true (by omega)
   have hm:=hx _ (at_mem hi)
   have hlen:=sP (decide (0<((at' out j).sources.length:Int))) ((at' out j).buses.take i) o
   unfold kG
   simp only [Int.toNat_natCast]
   rw [hd,cond_true,aj (by omega),aj (by omega),wr (by omega),dZ hi,JF]
   rfl
  ·have hd:decide (((at' out j).buses.length:Int)<((at' out j).buses.length:Int))=false:=decide_eq_false (by omega)
   unfold kG
   simp only [Int.toNat_natCast]
   rw [hd,cond_false,List.take_length]
 exact key
theorem QE: ∃L,oJ p s=some (L,0)∧(L.length:Int)=p.buses∧ ∀b:Nat,(b:Int)<p.buses→(at' L b=true↔Cz p s b):=by
 have hb:=hp.b;have h4:=hp.sl
 obtain⟨out,o,m,e,g,q⟩:=KX hp hs
 have hlen:=q.len
 have hgl:=g.len
 have hbus: ∀j,j<out.length→ ∀x∈(at' out j).buses,∃b:Nat,x=b∧(b:Int)<p.buses∧at' s.badBus b=false∧bH dS (mo p s b) m=some (j:Int):=by
  intro j hj x hx
  rw [q.bus j hj]at hx
  obtain⟨b,h1,h2,h3,h5⟩:=g.mem j (by omega) x hx
  exact⟨b,h1,by omega,h3,h5⟩
 have hx: ∀j,j<out.length→ ∀x∈(at' out j).buses,0≤x∧x<p.buses:=by
  intro j hj x hx
  obtain⟨b,h1,h2,_⟩:=hbus j hj x hx
  omega
 have hl: ∀j,j<out.length→(at' out j).buses.length≤1000:=by
  intro j hj;rw [q.bus j hj];have:=g.bl j (by omega);omega
 have hL:av (kH out) FUEL (Dj p.buses.toNat (out.take 0),((0:Nat):Int))=some (.brk (Dj p.buses.toNat out)):=by
  refine aH (fun i=>(Dj p.buses.toNat (out.take i),(i:Int))) out.length _ (fuel_lt (by omega)) (fun i hi=> ?_) ?_
  ·have hd:decide ((i:Int)<(out.length:Int))=true:=decide_eq_true (by omega)
   have hlo:=wJ p.buses.toNat (out.take i)
   unfold kH
   simp only
   rw [hd,cond_true,aj (by omega),QA hp hs hi (hx i hi) (hl i hi) (by omega)]
   simp only [Option.bind_some]
   rw [wr (by omega),dZ hi,Fx]
   rfl
  ·have hd:decide ((out.length:Int)<(out.length:Int))=false:=decide_eq_false (by omega)
   unfold kH
   simp only
   rw [hd,cond_false,List.take_length]
 have hat: ∀n,n≤out.length→ ∀b:Nat,(b:Int)<p.buses→(at' (Dj p.buses.toNat (out.take n)) b=true↔ ∃j,j<n∧(b:Int)∈(at' out j).buses∧(at' out j).sources≠[]):=by
  intro n
  induction n with
  |zero=>
   intro _ b hb'
   rw [List.take_zero]
   show at' (List.replicate p.buses.toNat false) b=true↔_
   rw [eT (by omega)]
   simp
  |succ n ih=>
   intro hn b hb'
   have hln:=wJ p.buses.toNat (out.take n)
   rw [dZ (by omega),Fx,ES _ _ _ _ (fun x h=>(hx n (by omega) x h).1) (by omega)]
   by_cases hm:(b:Int)∈(at' out n).buses
   ·rw [if_pos hm]
    have huniq: ∀j,j<out.length→(b:Int)∈(at' out j).buses→j=n:=by
     intro j hj hmj
     obtain⟨b1,e1,_,_,f1⟩:=hbus n (by omega) _ hm
     obtain⟨b2,e2,_,_,f2⟩:=hbus j hj _ hmj
     have:b1=b2:=by omega
     subst this
     rw [f1]at f2
     have:=Option.some.inj f2
     omega
    constructor
    ·intro hd
     refine⟨n,by omega,hm,fun hn=> ?_⟩
     rw [hn]at hd;simp at hd
    ·rintro ⟨j,hj,hmj,hsj⟩
     have:=huniq j (by omega) hmj
     subst this
     have:=List.length_pos_iff.mpr hsj
     exact decide_eq_true (by omega)
   ·rw [if_neg hm,ih (by omega) b hb']
    constructor
    ·rintro ⟨j,hj,h⟩;exact⟨j,by omega,h⟩
    ·rintro ⟨j,hj,h⟩
     have:j≠n:=fun e=>by subst e;exact hm h.1
     exact⟨j,by omega,h⟩
 refine⟨Dj p.buses.toNat out, ?_,by rw [wJ];omega,fun b hb'=> ?_⟩
 ·unfold oJ
  have h0:gV p s=0:=jk.mpr ⟨hp,hs⟩
  rw [jG p s hp.small,h0,Option.bind_some]
  simp only [decide_true,Bool.not_true,cond_false]
  rw [aj ⟨by omega,by omega,by omega⟩,e,Option.bind_some]
  have hL':av (kH out) FUEL (List.replicate p.buses.toNat false,0)=some (.brk (Dj p.buses.toNat out)):=hL
  rw [hL'];rfl
 ·have:=hat out.length (Nat.le_refl _) b hb'
  rw [List.take_length]at this
  rw [this]
  constructor
  ·rintro ⟨j,hj,hm,hsj⟩
   obtain⟨b1,e1,h1,hbad,f1⟩:=hbus j hj _ hm
   have:b1=b:=by omega
   subst this
   obtain⟨k,hk,hf,f2⟩:=(q.src j hj).mp hsj
   have hk2:=(hp.src k hk).bus
   have:=g.inj _ _ _ f1 f2
   obtain⟨l,w⟩:=(Ji hp (by omega) hb').mp this.symm
   exact⟨hbad,k,hk,hf,l,w⟩
  ·rintro ⟨hbad,k,hk,hf,l,w⟩
   have hk2:=(hp.src k hk).bus
   have he:=(Ji (s:=s) hp (u:=(at' p.sources k).bus.toNat) (by omega) hb').mpr ⟨l,w⟩
   obtain⟨j,hj,hm⟩:=g.cov b (by omega) hbad
   have hjl:=(g.ix _ _ hj).2
   refine⟨j,by omega,by rw [q.bus j (by omega)];exact hm, ?_⟩
   rw [q.src j (by omega)]
   exact⟨k,hk,hf,by rw [he];exact hj⟩
omit hp hs
theorem Cz.mono {c:List Bool} {b:Nat} (hc: ∀k,k<p.links.length→at' c k=true→at' s.closed k=true) (h:Cz p ⟨c,s.locked,s.badLink,s.on_,s.badSource,s.earthed,s.badBus⟩ b):Cz p s b:=by
 obtain⟨h1,k,hk,hf,l,w⟩:=h
 refine⟨h1,k,hk,hf,l, ?_⟩
 clear hf h1 hk
 induction w with
 |nil=>exact .nil
 | @snoc _ _ _ i _ hi hcb he ih=>
  refine ih.snoc hi ?_ he
  have:=hc i hi
  unfold dX at hcb ⊢
  simp only [Bool.and_eq_true]at hcb ⊢
  exact⟨⟨⟨this hcb.1.1.1,hcb.1.1.2⟩,hcb.1.2⟩,hcb.2⟩
end
def um (p:ai) (s:State) (o:List Bool) (i:Nat):List Bool:=
 bif dX p s i && (at' o (at' p.links i).a.toNat||at' o (at' p.links i).b.toNat)then(o.set (at' p.links i).a.toNat true).set (at' p.links i).b.toNat true else o
def nO (p:ai) (s:State) (o:List Bool):Nat→List Bool
 |0=>o
 |n+1=>um p s (nO p s o n) n
def Ev (p:ai) (s:State) (o:List Bool):Nat→List Bool
 |0=>o
 |n+1=>nO p s (Ev p s o n) p.links.length
theorem at_set {o:List Bool} {a v:Nat} (hv:v<o.length):at' (o.set a true) v=(decide (v=a)||at' o v):=by
 by_cases e:v=a
 ·subst e;rw [bG hv];simp
 ·rw [bP (Ne.symm e)];simp [e]
theorem FX (p:ai) (s:State) (o:List Bool) (i:Nat):(um p s o i).length=o.length:=by
 unfold um;cases(dX p s i && (at' o (at' p.links i).a.toNat||at' o (at' p.links i).b.toNat))<;>simp
theorem qN (p:ai) (s:State) (o:List Bool): ∀n,(nO p s o n).length=o.length
 |0=>rfl
 |n+1=>by rw [nO,FX,qN p s o n]
theorem sJ (p:ai) (s:State) (o:List Bool): ∀n,(Ev p s o n).length=o.length
 |0=>rfl
 |n+1=>by rw [Ev,qN,sJ p s o n]
theorem Hg {o:List Bool} {a:Nat} (ha:a<o.length):(at' o a=true→o.set a true=o)∧(at' o a=false→pU (o.set a true)=pU o+1):=by
 refine⟨fun h=>yT (by simp) fun i hi=> ?_,fun h=> ?_⟩
 ·rw [at_set (by simpa using hi)]
  by_cases e:i=a
  ·subst e;simp [h]
  ·simp [e]
 ·have h2:=DZ (o.set a true) a (by simpa using ha) (by rw [at_set ha];simp)
  rw [List.set_set]at h2
  have:o.set a false=o:=yT (by simp) fun i hi=>by
   by_cases e:i=a
   ·subst e;rw [bG ha,h]
   ·rw [bP (Ne.symm e)]
  rw [this]at h2
  omega
section
variable {p:ai} {s:State} (hp:VP p) (hs:VS p s)
include hp hs
theorem K3 {o:List Bool} (ho:(o.length:Int)=p.buses) {i:Nat} (hi:i<p.links.length):
  (um p s o i=o∧(dX p s i=true→at' o (at' p.links i).a.toNat=at' o (at' p.links i).b.toNat))∨pU o<pU (um p s o i):=by
 have hl:=hp.lnk i hi
 have ha:=hl.a;have hb:=hl.b;have hne:=hl.ab
 have ka:(at' p.links i).a.toNat<o.length:=by omega
 have kb:(at' p.links i).b.toNat<o.length:=by omega
 have kn:(at' p.links i).b.toNat≠(at' p.links i).a.toNat:=by omega
 unfold um
 generalize (at' p.links i).a.toNat=a at*
 generalize (at' p.links i).b.toNat=b at*
 cases hc:dX p s i with
 |false=>left;exact⟨rfl,fun h=>by cases h⟩
 |true=>
  obtain⟨a1,a2⟩:=Hg ka
  have hba:at' (o.set a true) b=at' o b:=bP (Ne.symm kn)
  obtain⟨b1,b2⟩:=Hg (o:=o.set a true) (a:=b) (by simpa using kb)
  rw [hba]at b1 b2
  cases h1:at' o a with
  |true=>
   rw [a1 h1]at b1 b2 ⊢
   cases h2:at' o b with
   |true=>left;simp [b1 h2,h1,h2]
   |false=>right;have:=b2 h2;simp [h1];omega
  |false=>
   have a2:=a2 h1
   cases h2:at' o b with
   |true=>right;have:=b1 h2;simp [this];omega
   |false=>left;simp [h1,h2]
theorem y8 {o:List Bool} (ho:(o.length:Int)=p.buses): ∀n,n≤p.links.length→
  (nO p s o n=o∧ ∀i,i<n→dX p s i=true→at' o (at' p.links i).a.toNat=at' o (at' p.links i).b.toNat)∨pU o<pU (nO p s o n)
 |0,_=> .inl ⟨rfl,fun i hi=>absurd hi (Nat.not_lt_zero i)⟩
 |n+1,hn=>by
  have ih:=y8 ho n (by omega)
  have st:=K3 hp hs (o:=nO p s o n) (by rw [qN];exact ho) (i:=n) (by omega)
  rw [nO]
  rcases ih with⟨e,h⟩|h
  ·rw [e]at st ⊢
   rcases st with⟨e2,h2⟩|h2
   ·left
    refine⟨e2,fun i hi hc=> ?_⟩
    by_cases q:i=n
    ·subst q;exact h2 hc
    ·exact h i (by omega) hc
   ·right;exact h2
  ·right
   rcases st with⟨e2,_⟩|h2
   ·rw [e2];exact h
   ·omega
theorem LM {o:List Bool} (ho:(o.length:Int)=p.buses) (h1:1≤pU o): ∀n,nO p s (Ev p s o n) p.links.length=Ev p s o n∨n+1≤pU (Ev p s o n)
 |0=> .inr h1
 |n+1=>by
  rcases LM ho h1 n with e|e
  ·left;rw [Ev,e,e]
  ·rcases y8 hp hs (o:=Ev p s o n) (by rw [sJ];exact ho) p.links.length (Nat.le_refl _)with⟨q,_⟩|q
   ·left;rw [Ev,q,q]
   ·right;rw [Ev];omega
theorem NP {b:Nat} {o:List Bool} (ho:(o.length:Int)=p.buses) (h: ∀v,v<o.length→at' o v=true→ ∃l,Wk p s b l v) {i:Nat} (hi:i<p.links.length): ∀v,v<(um p s o i).length→at' (um p s o i) v=true→ ∃l,Wk p s b l v:=by
 intro v hv hm
 rw [FX]at hv
 have hl:=hp.lnk i hi
 have ha:=hl.a;have hb:=hl.b
 unfold um at hm
 cases hc:dX p s i with
 |false=>rw [hc]at hm;exact h v hv hm
 |true=>
  cases hq:(at' o (at' p.links i).a.toNat||at' o (at' p.links i).b.toNat)with
  |false=>rw [hc,hq]at hm;exact h v hv hm
  |true=>
   rw [hc,hq]at hm
   simp only [Bool.and_self,cond_true]at hm
   rw [at_set (by simpa using hv),at_set hv]at hm
   simp only [Bool.or_eq_true,decide_eq_true_eq]at hm hq
   rcases hm with e|e|e
   ·rcases hq with q|q
    ·obtain⟨l,w⟩:=h _ (by omega) q
     exact⟨_,w.snoc hi hc (.inl ⟨rfl,e.symm⟩)⟩
    ·rw [e];exact h _ (by omega) q
   ·rcases hq with q|q
    ·rw [e];exact h _ (by omega) q
    ·obtain⟨l,w⟩:=h _ (by omega) q
     exact⟨_,w.snoc hi hc (.inr ⟨rfl,e.symm⟩)⟩
   ·exact h v hv e
theorem IJ {b:Nat} {o:List Bool} (ho:(o.length:Int)=p.buses) (h: ∀v,v<o.length→at' o v=true→ ∃l,Wk p s b l v): ∀n,n≤p.links.length→ ∀v,v<(nO p s o n).length→at' (nO p s o n) v=true→ ∃l,Wk p s b l v
 |0,_=>h
 |n+1,hn=>NP hp hs (by rw [qN];exact ho) (IJ ho h n (by omega)) (by omega)
theorem N7 {b:Nat} {o:List Bool} (ho:(o.length:Int)=p.buses) (h: ∀v,v<o.length→at' o v=true→ ∃l,Wk p s b l v): ∀n,∀v,v<(Ev p s o n).length→at' (Ev p s o n) v=true→ ∃l,Wk p s b l v
 |0=>h
 |n+1=>IJ hp hs (by rw [sJ];exact ho) (N7 ho h n) _ (Nat.le_refl _)
theorem Kr {o:List Bool} {v i:Nat} (hv:v<o.length) (h:at' o v=true):at' (um p s o i) v=true:=by
 unfold um
 cases(dX p s i && (at' o (at' p.links i).a.toNat||at' o (at' p.links i).b.toNat))with
 |false=>exact h
 |true=>rw [cond_true,at_set (by simpa using hv),at_set hv,h];simp
theorem C9 {o:List Bool} {v:Nat} (hv:v<o.length) (h:at' o v=true): ∀n,at' (nO p s o n) v=true
 |0=>h
 |n+1=>Kr hp hs (by rw [qN];exact hv) (C9 hv h n)
theorem Jz {o:List Bool} {v:Nat} (hv:v<o.length) (h:at' o v=true): ∀n,at' (Ev p s o n) v=true
 |0=>h
 |n+1=>C9 hp hs (by rw [sJ];exact hv) (Jz hv h n) _
theorem Ii {b:Nat} (hb:(b:Int)<p.buses): ∃R,kM p s (b:Int)=some R∧(R.length:Int)=p.buses∧ ∀v,v<R.length→(at' R v=true↔ ∃l,Wk p s b l v):=by
 have hbb:=hp.b;have hll:=hp.ll
 obtain⟨n,hn⟩: ∃n:Nat,p.buses=(n:Int):=⟨p.buses.toNat,by omega⟩
 have hO:((List.replicate n false).set b true).length=n:=by simp
 have h1:at' ((List.replicate n false).set b true) b=true:=bG (by simp;omega)
 have hw0: ∀v,v<((List.replicate n false).set b true).length→at' ((List.replicate n false).set b true) v=true→ ∃l,Wk p s b l v:=by
  intro v hv h
  rw [hO]at hv
  rw [at_set (by simpa using hv),eT hv]at h
  simp at h
  subst h
  exact⟨[], .nil⟩
 have hc1:1≤pU ((List.replicate n false).set b true):=by
  have:=(Hg (o:=List.replicate n false) (a:=b) (by simp;omega)).2 (eT (by omega))
  omega
 generalize ho:(List.replicate n false).set b true=o at*
 refine⟨Ev p s o n, ?_,by rw [sJ,hO,hn],fun v hv=> ⟨N7 hp hs (by rw [hO,hn]) hw0 n v hv,fun⟨l,w⟩=> ?_⟩⟩
 ·unfold kM
  rw [hn,aj (by omega),Int.toNat_natCast,aj (by simp;omega),Int.toNat_natCast,ho]
  have L1: ∀q:List Bool,q.length=n→av (jT p s (b:Int)) FUEL (q,0)=some (.brk (nO p s q p.links.length)):=by
   intro q hq
   refine aH (body:=jT p s (b:Int)) (fun t=>(nO p s q t,(t:Int))) p.links.length _ (fuel_lt (by omega)) (fun t ht=> ?_) ?_
   ·have hl:=hp.lnk t ht
    have ha:=hl.a;have hb2:=hl.b
    have hlq:=qN p s q t
    unfold jT
    have d1:decide ((t:Int)<(p.links.length:Int))=true:=decide_eq_true (by omega)
    simp only [d1,cond_true]
    rw [aj (by omega),xA hp hs ht,Option.bind_some,Int.toNat_natCast,aj ⟨fun _=>by omega,fun _=>by omega⟩,aj (by omega),aj (by rw [List.length_set];omega),wr (by omega),qi,GA]
    rw [show nO p s q (t+1)=um p s (nO p s q t) t from rfl]
    unfold um
    cases(dX p s t && (at' (nO p s q t) (at' p.links t).a.toNat||at' (nO p s q t) (at' p.links t).b.toNat))<;>rfl
   ·unfold jT
    have d1:decide ((p.links.length:Int)<(p.links.length:Int))=false:=decide_eq_false (by omega)
    simp only [d1,cond_false]
  have L0:av (jR p s (b:Int)) FUEL (o,0)=some (.brk (Ev p s o n)):=by
   refine aH (body:=jR p s (b:Int)) (fun t=>(Ev p s o t,(t:Int))) n _ (fuel_lt (by omega)) (fun t ht=> ?_) ?_
   ·unfold jR
    have d1:decide ((t:Int)<p.buses)=true:=decide_eq_true (by omega)
    simp only [d1,cond_true]
    rw [L1 _ (by rw [sJ,hO]),Option.bind_some,wr (by omega)]
    rfl
   ·unfold jR
    have d1:decide ((n:Int)<p.buses)=false:=decide_eq_false (by omega)
    simp only [d1,cond_false]
  rw [L0];rfl
 ·have hle:pU (Ev p s o n)≤n:=by have:=LB (Ev p s o n);rw [sJ,hO]at this;exact this
  have hfix:nO p s (Ev p s o n) p.links.length=Ev p s o n:=(LM hp hs (by rw [hO,hn]) hc1 n).resolve_right (by omega)
  have hcl:=(y8 hp hs (o:=Ev p s o n) (by rw [sJ,hO,hn]) p.links.length (Nat.le_refl _)).resolve_right (by rw [hfix];omega)
  have hbm:at' (Ev p s o n) b=true:=Jz hp hs (by omega) h1 n
  clear hv
  induction w with
  |nil=>exact hbm
  |snoc w' hi hc he ih=>
   have ih:=ih ⟨_,w'⟩
   have:=hcl.2 _ hi hc
   rcases he with⟨e1,e2⟩|⟨e1,e2⟩
   ·rw [←e2,←this,e1];exact ih
   ·rw [←e2,this,e1];exact ih
end
theorem I6 {α:Type} (n:Nat) (f:Nat→α):tab (n+1) f=tab n f++[f n]:=by simp [tab,List.range_succ]
theorem Ci (s:State) (h:yI s):oz s=some s:=by
 obtain⟨h0,h1,h2,h3,h4,h5,h6⟩:=h
 unfold oz
 rw [fK _ h0,fK _ h1,fK _ h2,fK _ h3,fK _ h4,fK _ h5,fK _ h6]
 simp only [Option.bind_some]
 rw [aj (by omega),aj (by omega),aj (by omega),aj (by omega),aj (by omega),aj (by omega),aj (by omega)]
section
variable {p:ai} {s:State} (hp:VP p) (hs:VS p s)
include hp hs
theorem KC (n:Nat) (hn:p.buses=(n:Int)) (r:List Bool) (hr:r.length=n) (f:Nat→Bool):av (iX p r) FUEL (tab n f,0)=some (.brk (tab n fun v=>f v||at' r v)):=by
 have hb:=hp.b
 have key:av (iX p r) FUEL (tab n (fun v=>if v<0 then f v||at' r v else f v),((0:Nat):Int))=some (.brk (tab n fun v=>f v||at' r v)):=by
  refine aH (body:=iX p r) (fun t=>(tab n (fun v=>if v<t then f v||at' r v else f v),(t:Int))) n _ (fuel_lt (by omega)) (fun t ht=> ?_) ?_
  ·unfold iX
   have d1:decide ((t:Int)<p.buses)=true:=decide_eq_true (by omega)
   simp only [d1,cond_true,Int.toNat_natCast]
   rw [aj ⟨by rw [aG];omega,fun _=>by omega⟩,wr (by omega),iT ht,if_neg (Nat.lt_irrefl _),vE]
   congr 2
   rw [Prod.mk.injEq]
   refine⟨bR fun v hv=> ?_,by omega⟩
   by_cases e:v=t
   ·subst e;rw [if_pos rfl,if_pos (by omega),qi]
   ·rw [if_neg e]
    by_cases q:v<t
    ·rw [if_pos q,if_pos (by omega)]
    ·rw [if_neg q,if_neg (by omega)]
  ·unfold iX
   have d1:decide ((n:Int)<p.buses)=false:=decide_eq_false (by omega)
   simp only [d1,cond_false]
   rw [bR (g:=fun v=>f v||at' r v) fun v hv=>if_pos hv]
 have e0:(tab n fun v=>if v<0 then f v||at' r v else f v)=tab n f:=bR fun v _=>if_neg (Nat.not_lt_zero v)
 rw [e0]at key
 exact key
theorem K5: ∃L,oD p s=some (L,0)∧(L.length:Int)=p.buses∧ ∀b:Nat,(b:Int)<p.buses→(at' L b=true↔Cz p s b):=by
 have hb:=hp.b;have hsl:=hp.sl
 obtain⟨n,hn⟩: ∃n:Nat,p.buses=(n:Int):=⟨p.buses.toNat,by omega⟩
 have hex: ∀k:Nat,∃R:List Bool,k<p.sources.length→kM p s (at' p.sources k).bus=some R∧R.length=n∧ ∀v,v<n→(at' R v=true↔ ∃l,Wk p s (at' p.sources k).bus.toNat l v):=by
  intro k
  by_cases h:k<p.sources.length
  ·have hk:=(hp.src k h).bus
   obtain⟨R,h1,h2,h3⟩:=Ii hp hs (b:=(at' p.sources k).bus.toNat) (by omega)
   rw [show(((at' p.sources k).bus.toNat:Nat):Int)=(at' p.sources k).bus by omega]at h1
   exact⟨R,fun _=> ⟨h1,by omega,fun v hv=>h3 v (by omega)⟩⟩
  ·exact⟨[],fun q=>absurd q h⟩
 let R:Nat→List Bool:=fun k=>(hex k).choose
 have hR: ∀k,k<p.sources.length→kM p s (at' p.sources k).bus=some (R k)∧(R k).length=n∧ ∀v,v<n→(at' (R k) v=true↔ ∃l,Wk p s (at' p.sources k).bus.toNat l v):=fun k=>(hex k).choose_spec
 let O:Nat→List Bool:=fun k=>tab n fun v=>(List.range k).any fun j=>oQ p s j && at' (R j) v
 refine⟨O p.sources.length, ?_,by rw [aG];omega,fun v hv=> ?_⟩
 ·unfold oD
  rw [gZ p s hp.small,jk.mpr ⟨hp,hs⟩,Option.bind_some]
  simp only [decide_true,Bool.not_true,cond_false]
  rw [aj (by omega)]
  have key:av (iU p s) FUEL (O 0,((0:Nat):Int))=some (.brk (O p.sources.length)):=by
   refine aH (body:=iU p s) (fun k=>(O k,(k:Int))) p.sources.length _ (fuel_lt (by omega)) (fun k hk=> ?_) ?_
   ·unfold iU
    have d1:decide ((k:Int)<(p.sources.length:Int))=true:=decide_eq_true (by omega)
    simp only [d1,cond_true,Int.toNat_natCast]
    rw [Bt hp hs hk,Option.bind_some,wr (by omega)]
    have hOk:O (k+1)=tab n fun v=>((List.range k).any fun j=>oQ p s j && at' (R j) v)||(oQ p s k && at' (R k) v):=bR fun v _=>by rw [List.range_succ,List.any_append,List.any_cons,List.any_nil,Bool.or_false]
    cases hf:oQ p s k with
    |false=>
     rw [hf]at hOk
     simp only [Bool.false_and,Bool.or_false]at hOk
     rw [hOk];rfl
    |true=>
     rw [hf]at hOk
     simp only [Bool.true_and]at hOk
     obtain⟨h1,h2,_⟩:=hR k hk
     simp only [Bool.not_true,cond_false]
     rw [h1,Option.bind_some,aj (by omega),KC hp hs n hn (R k) h2,Option.bind_some,hOk]
     rfl
   ·unfold iU
    have d1:decide ((p.sources.length:Int)<(p.sources.length:Int))=false:=decide_eq_false (by omega)
    simp only [d1,cond_false]
  have e0:O 0=List.replicate p.buses.toNat false:=by rw [Ce,show p.buses.toNat=n by omega];rfl
  rw [e0]at key
  have key':av (iU p s) FUEL (List.replicate p.buses.toNat false,0)=_:=key
  rw [key'];rfl
 ·have hv':v<n:=by omega
  rw [show at' (O p.sources.length) v=_ from iT hv',List.any_eq_true]
  constructor
  ·rintro ⟨k,hk,h⟩
   have hk:=List.mem_range.mp hk
   rw [Bool.and_eq_true]at h
   obtain⟨l,w⟩:=((hR k hk).2.2 v hv').mp h.2
   refine⟨?_,k,hk,h.1,l,w⟩
   have hf:=h.1
   cases w with
   |nil=>
    unfold oQ at hf
    revert hf
    cases at' s.badBus (at' p.sources k).bus.toNat<;>simp
   |snoc w' hi hc he=>
    unfold dX at hc
    rcases he with⟨e1,e2⟩|⟨e1,e2⟩
    ·rw [e2]at hc;revert hc;cases at' s.badBus v<;>simp
    ·rw [e2]at hc;revert hc;cases at' s.badBus v<;>simp
  ·rintro ⟨_,k,hk,hf,l,w⟩
   exact⟨k,List.mem_range.mpr hk,by rw [hf,((hR k hk).2.2 v hv').mpr ⟨l,w⟩];rfl⟩
theorem MB: ∃L,oJ p s=some (L,0)∧oD p s=some (L,0)∧(L.length:Int)=p.buses:=by
 obtain⟨L,h1,h2,h3⟩:=QE hp hs
 obtain⟨L',g1,g2,g3⟩:=K5 hp hs
 have:L'=L:=yT (by omega) fun i hi=>by
  rw [Bool.eq_iff_iff,g3 i (by omega),h3 i (by omega)]
 subst this
 exact⟨L',h1,g1,h2⟩
def iR (p:ai) (L:List Bool) (k:Nat):aI:=⟨at' L (at' p.racks k).feeds.e0.toNat,bif decide (0≤(at' p.racks k).feeds.e1)then at' L (at' p.racks k).feeds.e1.toNat else false⟩
theorem IU: ∃L,qf p s=some (tab p.racks.length (iR p L),0)∧qg p s=some (tab p.racks.length (iR p L),0):=by
 obtain⟨L,h1,h2,h3⟩:=MB hp hs
 have hrl:=hp.rl
 refine⟨L, ?_, ?_⟩
 ·unfold qf
  rw [h1,Option.bind_some]
  simp only [decide_true,Bool.not_true,cond_false]
  have key:av (jP p (L,0)) FUEL (tab 0 (iR p L),((0:Nat):Int))=some (.brk (tab p.racks.length (iR p L))):=by
   refine aH (body:=jP p (L,0)) (fun t=>(tab t (iR p L),(t:Int))) p.racks.length _ (fuel_lt (by omega)) (fun t ht=> ?_) ?_
   ·have hr:=hp.rck t ht
    have r0:=hr.e0;have r1:=hr.e1
    unfold jP
    have d1:decide ((t:Int)<(p.racks.length:Int))=true:=decide_eq_true (by omega)
    have d2:decide (0≤(at' p.racks t).feeds.e0)=true:=decide_eq_true (by omega)
    simp only [d1,cond_true,Int.toNat_natCast,d2]
    have q1: ∀l,gB [(decide (0≤(at' p.racks t).feeds.e1),true)]=l→l=true→0≤(at' p.racks t).feeds.e1:=fun l e h=>by
     subst e;simp [gB]at h;exact h
    rw [aj (by omega),aj (fun _=>by omega),aj (fun h=>by have:=q1 _ rfl h;omega),aj (by rw [aG,List.length_singleton];omega),wr (by omega),I6]
    rfl
   ·unfold jP
    have d1:decide ((p.racks.length:Int)<(p.racks.length:Int))=false:=decide_eq_false (by omega)
    simp only [d1,cond_false]
  have key':av (jP p (L,0)) FUEL ([],0)=_:=key
  rw [key'];rfl
 ·unfold qg
  rw [h2,Option.bind_some]
  simp only [decide_true,Bool.not_true,cond_false]
  have key:av (jQ p (L,0)) FUEL (tab 0 (iR p L),((0:Nat):Int))=some (.brk (tab p.racks.length (iR p L))):=by
   refine aH (body:=jQ p (L,0)) (fun t=>(tab t (iR p L),(t:Int))) p.racks.length _ (fuel_lt (by omega)) (fun t ht=> ?_) ?_
   ·have hr:=hp.rck t ht
    have r0:=hr.e0;have r1:=hr.e1
    unfold jQ
    have d1:decide ((t:Int)<(p.racks.length:Int))=true:=decide_eq_true (by omega)
    have q1: ∀l,gB [(decide (0≤(at' p.racks t).feeds.e1),true)]=l→l=true→0≤(at' p.racks t).feeds.e1:=fun l e h=>by
     subst e;simp [gB]at h;exact h
    have e1:(bif decide (0≤(at' p.racks t).feeds.e1)then at' L (if(at' p.racks t).feeds.e1<0 then 0 else(at' p.racks t).feeds.e1).toNat else false)=(bif decide (0≤(at' p.racks t).feeds.e1)then at' L (at' p.racks t).feeds.e1.toNat else false):=by
     by_cases h:0≤(at' p.racks t).feeds.e1
     ·rw [if_neg (by omega)]
     ·rw [decide_eq_false h];rfl
    simp only [d1,cond_true,Int.toNat_natCast,e1]
    rw [aj (by omega),aj ⟨by omega,fun h=>by have:=q1 _ rfl h;rw [if_neg (by omega)];omega,by rw [aG,List.length_singleton];omega,by rw [aG,List.length_singleton];omega⟩,wr (by omega),I6]
    rfl
   ·unfold jQ
    have d1:decide ((p.racks.length:Int)<(p.racks.length:Int))=false:=decide_eq_false (by omega)
    simp only [d1,cond_false]
  have key':av (jQ p (L,0)) FUEL ([],0)=_:=key
  rw [key'];rfl
def RN (s:State) (b:Nat):State:=⟨s.closed,s.locked,s.badLink,s.on_,s.badSource,s.earthed,s.badBus.set b true⟩
theorem VS.bad {b:Nat}:VS p (RN s b):=⟨hs.closed,hs.locked,hs.badLink,hs.on,hs.badSource,hs.earthed,by show((s.badBus.set b true).length:Int)=_;rw [List.length_set];exact hs.badBus,hs.cable⟩
theorem O9 {b:Nat} (hb:(b:Int)<p.buses):pK p s ⟨1,(b:Int)⟩=some (RN s b,0):=by
 have h7:=hs.badBus;have hbb:=hp.b
 unfold pK q9
 rw [jG p s hp.small,jk.mpr ⟨hp,hs⟩,Option.bind_some,Ci s (hs.small hp)]
 simp only [decide_true,Bool.not_true,cond_false,Option.bind_some,Dk,cond_true,qK,Int.toNat_natCast]
 rw [wr (by omega)]
 have:wi (b:Int) 0 ((s.badBus.length:Int) - 1)=true:=by unfold wi;simp;omega
 rw [this,aj (by omega)]
 rfl
end
def Ll (p:ai) (bus:Int) (x:Event):Bool:= !(decide ((at' p.links x.link.toNat).a=bus)||decide ((at' p.links x.link.toNat).b=bus))
theorem xq {p:ai} {s:State} {bus:Int} {C:aA} {e:Int} (h1:bI p s bus=some (C,e)) (h2:bT p s bus=some (toR C,e)) (hc:e≠0→C.cleared=false) (hlen:C.events.length≤1000) (hlk: ∀e∈C.events,0≤e.link∧e.link<(p.links.length:Int)):
  ∃r,fq p s bus=some r∧je p s bus=some r:=by
 unfold fq je
 rw [h1,h2,Option.bind_some,Option.bind_some]
 by_cases he:e=0
 ·subst he
  simp only [decide_true,Bool.not_true,cond_false,show(toR C).cleared=C.cleared from rfl]
  cases hcl:C.cleared with
  |false=>exact⟨(false,0),by simp [gB],by simp⟩
  |true=>
   have hat: ∀t,t<C.events.length→0≤(at' C.events t).link∧(at' C.events t).link<(p.links.length:Int):=fun t ht=>hlk _ (at_mem ht)
   have k1:av (fQ C.events p.buses p.sources p.links p.racks bus) FUEL 0=some (match(List.range C.events.length).find? (fun i=>Ll p bus (at' C.events i))with|some i=> .ret (i:Int)|none=> .brk ()):=by
    refine dQ C.events.length (fun i=>Ll p bus (at' C.events i)) (fun i=>i) (by omega) (fun t ht=> ?_) ?_
    ·have:=hat t ht
     unfold fQ mq vo
     have d1:decide ((t:Int)<(C.events.length:Int))=true:=decide_eq_true (by omega)
     simp only [d1,cond_true,Int.toNat_natCast]
     rw [aj ⟨by omega,fun _=>by omega⟩]
     simp only [Option.bind_some]
     rw [aj (by omega),wr (by omega),qi]
     exact ol _ _ _
    ·unfold fQ
     have d1:decide ((C.events.length:Int)<(C.events.length:Int))=false:=decide_eq_false (by omega)
     simp only [d1,cond_false]
   have k2:av (ji p bus (toR C,0)) FUEL 0=some (match(List.range C.events.length).find? (fun i=>Ll p bus (at' C.events i))with|some _=> .ret (false,0)|none=> .brk ()):=by
    refine dQ C.events.length (fun i=>Ll p bus (at' C.events i)) (fun _=>(false,(0:Int))) (by omega) (fun t ht=> ?_) ?_
    ·have:=hat t ht
     unfold ji
     simp only [show(toR C).events=C.events from rfl]
     have d1:decide ((t:Int)<(C.events.length:Int))=true:=decide_eq_true (by omega)
     simp only [d1,cond_true,Int.toNat_natCast]
     rw [aj ⟨by omega,by omega⟩,wr (by omega)]
     have:(bif !decide ((at' p.links (at' C.events t).link.toNat).a=bus)then !decide ((at' p.links (at' C.events t).link.toNat).b=bus)else false)=Ll p bus (at' C.events t):=by
      unfold Ll
      cases decide ((at' p.links (at' C.events t).link.toNat).a=bus)<;>rfl
     rw [this]
     exact ol _ _ _
    ·unfold ji
     simp only [show(toR C).events=C.events from rfl]
     have d1:decide ((C.events.length:Int)<(C.events.length:Int))=false:=decide_eq_false (by omega)
     simp only [d1,cond_false]
   unfold jE kU
   rw [k1,k2]
   cases(List.range C.events.length).find? (fun i=>Ll p bus (at' C.events i))with
   |none=>exact⟨(true,0),rfl,rfl⟩
   |some k=>
    refine⟨(false,0), ?_,rfl⟩
    have:decide ((0:Int)≤(k:Int))=true:=decide_eq_true (by omega)
    simp [gB,this]
 ·have:=hc he
  rw [decide_eq_false he]
  exact⟨(false,e),rfl,rfl⟩
theorem MF {p:ai} (hp:VP p) {s:State} (hs:VS p s) {b:Nat} (hb:(b:Int)<p.buses) {C:aA} (h1:bI p s (b:Int)=some (C,0)) (h2:bT p s (b:Int)=some (toR C,0)) (hv:VS p C.state):
  ∃l e,kg p s (b:Int)=some (l,e)∧lZ p s (b:Int)=some (l,e)∧l.length≤24:=by
 have hrl:=hp.rl;have h7:=hv.badBus
 unfold kg lZ
 rw [h1,h2,Option.bind_some,Option.bind_some]
 simp only [decide_true,Bool.not_true,cond_false,show(toR C).cleared=C.cleared from rfl,show(toR C).state=C.state from rfl]
 cases hcl:C.cleared with
 |false=>exact⟨[],4,rfl,rfl,by simp⟩
 |true=>
  obtain⟨L,a1,a2⟩:=IU hp hs
  obtain⟨L',b1,b2⟩:=IU hp (VS.bad hp hv (b:=b))
  rw [O9 hp hv hb,aj (by omega)]
  simp only [Bool.not_true,cond_false,Option.bind_some,Int.toNat_natCast]
  rw [a1,a2,b1,show(⟨C.state.closed,C.state.locked,C.state.badLink,C.state.on_,C.state.badSource,C.state.earthed,C.state.badBus.set b true⟩:State)=RN C.state b from rfl,b2]
  simp only [Option.bind_some]
  let f:Nat→Bool:=fun k=>((iR p L k).e0||(iR p L k).e1) && !((iR p L' k).e0||(iR p L' k).e1)
  let O:Nat→List Int:=fun t=>((List.range t).filter f).map fun(k:Nat)=>(k:Int)
  have hO: ∀t,O (t+1)=O t++(if f t then [(t:Int)]else []):=fun t=>by
   show((List.range (t+1)).filter f).map _=_
   rw [List.range_succ,List.filter_append,List.map_append]
   cases h:f t<;>simp [h,O]
  have hOl: ∀t,(O t).length≤t:=fun t=>by
   show(((List.range t).filter f).map _).length≤t
   rw [List.length_map]
   have:=List.length_filter_le f (List.range t)
   rw [List.length_range]at this
   exact this
  have k1:av (iW p (tab p.racks.length (iR p L),0) (tab p.racks.length (iR p L'),0)) FUEL (O 0,((0:Nat):Int))=some (.brk (O p.racks.length)):=by
   refine aH (body:=iW p (tab p.racks.length (iR p L),0) (tab p.racks.length (iR p L'),0)) (fun t=>(O t,(t:Int))) p.racks.length _ (fuel_lt (by omega)) (fun t ht=> ?_) ?_
   ·unfold iW nQ
    have d1:decide ((t:Int)<(p.racks.length:Int))=true:=decide_eq_true (by omega)
    simp only [d1,cond_true,Int.toNat_natCast,Option.bind_some,qi]
    rw [iT ht,iT ht]
    have hl:=hOl t
    have hft:f t=(((iR p L t).e0||(iR p L t).e1) && !((iR p L' t).e0||(iR p L' t).e1)):=rfl
    rw [hO,hft]
    cases hx:((iR p L t).e0||(iR p L t).e1)with
    |false=>
     rw [show(bif gB [(false,true)]then some ((iR p L' t).e0||(iR p L' t).e1)else some default)=some false from rfl,Option.bind_some,aj ⟨by rw [aG];omega,fun _=>by rw [aG];omega⟩,wr (by omega)]
     simp
    |true=>
     rw [show(bif gB [(true,true)]then some ((iR p L' t).e0||(iR p L' t).e1)else some default)=some ((iR p L' t).e0||(iR p L' t).e1)from rfl,Option.bind_some,aj ⟨by rw [aG];omega,fun _=>by rw [aG];omega⟩,wr (by omega)]
     cases hy:((iR p L' t).e0||(iR p L' t).e1)with
     |true=>simp
     |false=>
      simp only [cond_true,Bool.not_false]
      rw [aj (by rw [List.length_singleton];omega)]
      simp
   ·unfold iW
    have d1:decide ((p.racks.length:Int)<(p.racks.length:Int))=false:=decide_eq_false (by omega)
    simp only [d1,cond_false]
  have k2:av (iV p (tab p.racks.length (iR p L),0) (tab p.racks.length (iR p L'),0)) FUEL (O 0,((0:Nat):Int))=some (.brk (O p.racks.length)):=by
   refine aH (body:=iV p (tab p.racks.length (iR p L),0) (tab p.racks.length (iR p L'),0)) (fun t=>(O t,(t:Int))) p.racks.length _ (fuel_lt (by omega)) (fun t ht=> ?_) ?_
   ·unfold iV
    have d1:decide ((t:Int)<(p.racks.length:Int))=true:=decide_eq_true (by omega)
    simp only [d1,cond_true,Int.toNat_natCast]
    have hl:=hOl t
    have hft:f t=(((iR p L t).e0||(iR p L t).e1) && !((iR p L' t).e0||(iR p L' t).e1)):=rfl
    rw [hO,hft,aj ⟨by rw [aG];omega,fun _=>by rw [aG];omega,fun _=>by rw [aG];omega,fun _=>by rw [aG];omega⟩,iT ht,iT ht,wr (by omega)]
    cases(iR p L t).e0<;>cases(iR p L t).e1<;>cases(iR p L' t).e0<;>cases(iR p L' t).e1<;>simp only [cond_true,cond_false,Bool.or_true,Bool.or_false,Bool.true_or,Bool.false_or,Bool.not_true,Bool.not_false,Bool.and_true,Bool.and_false,Bool.true_and,Bool.false_and,if_true,List.append_nil,Bool.false_eq_true,if_false]<;>first|rfl|(rw [aj (by rw [List.length_singleton];omega)];rfl)
   ·unfold iV
    have d1:decide ((p.racks.length:Int)<(p.racks.length:Int))=false:=decide_eq_false (by omega)
    simp only [d1,cond_false]
  have k1':av (iW p (tab p.racks.length (iR p L),0) (tab p.racks.length (iR p L'),0)) FUEL ([],0)=_:=k1
  have k2':av (iV p (tab p.racks.length (iR p L),0) (tab p.racks.length (iR p L'),0)) FUEL ([],0)=_:=k2
  rw [k1',k2']
  exact⟨O p.racks.length,0,rfl,rfl,by have:=hOl p.racks.length;omega⟩
theorem Jc (x:Link) (h:x.trip.length≤1000):nT x=some x:=by
 unfold nT qo
 rw [aj (by omega)];rfl
theorem Gt (p:ai) (h1:p.sources.length≤60) (h2:p.links.length≤60) (h3:p.racks.length≤60) (h4: ∀x∈p.links,x.trip.length≤20):mK p=some p:=by
 have key:av (fJ p.links) FUEL (p.links.take 0,((0:Nat):Int))=some (.brk (p.links.take p.links.length)):=by
  refine aH (body:=fJ p.links) (fun t=>(p.links.take t,(t:Int))) p.links.length _ (fuel_lt (by omega)) (fun t ht=> ?_) ?_
  ·unfold fJ
   have d1:decide ((t:Int)<(p.links.length:Int))=true:=decide_eq_true (by omega)
   simp only [d1,cond_true,Int.toNat_natCast]
   have:=h4 _ (at_mem ht)
   rw [Jc _ (by omega),Option.bind_some,aj ⟨by omega,by rw [List.length_take,List.length_singleton];omega,by rw [List.length_take,List.length_singleton];omega⟩,wr (by omega),dZ ht]
   rfl
  ·unfold fJ
   have d1:decide ((p.links.length:Int)<(p.links.length:Int))=false:=decide_eq_false (by omega)
   simp only [d1,cond_false]
 have key':av (fJ p.links) FUEL ([],0)=_:=key
 unfold mK nM qm qw
 rw [aj (by omega),key',aj (by omega),List.take_length]
 rfl
structure L8 (s:State):Prop where
 l0:s.closed.length≤140737488351232
 l1:s.locked.length≤140737488351232
 l2:s.badLink.length≤140737488351232
 l3:s.on_.length≤140737488351232
 l4:s.badSource.length≤140737488351232
 l5:s.earthed.length≤140737488351232
 l6:s.badBus.length≤140737488351232
theorem gF (l:List Bool) (h:l.length≤140737488351232):bK l=some l:=by
 unfold bK;rw [aj (by omega)]
theorem Dn (s:State) (h:L8 s):gH s=some s:=by
 obtain⟨h0,h1,h2,h3,h4,h5,h6⟩:=h
 unfold gH
 rw [gF _ h0,gF _ h1,gF _ h2,gF _ h3,gF _ h4,gF _ h5,gF _ h6]
 rfl
theorem C8 (a:State) (h:L8 a):gI a a=some true:=by
 obtain⟨h0,h1,h2,h3,h4,h5,h6⟩:=h
 unfold gI
 rw [bU _ _ (by omega),bU _ _ (by omega),bU _ _ (by omega),bU _ _ (by omega),bU _ _ (by omega),bU _ _ (by omega),bU _ _ (by omega)]
 simp [gB]
theorem EL (l:List Int) (h:l.length≤1000):iG l l=some true:=by
 have key:av (kZ l l) FUEL 0=some (.brk ()):=by
  refine aH (fun t=>(t:Int)) l.length _ (fuel_lt (by omega)) (fun t ht=> ?_) ?_
  ·unfold kZ
   rw [decide_eq_true (show(t:Int)<(l.length:Int) by omega),cond_true,aj ⟨by omega,by omega⟩,wr (by omega)]
   simp
  ·unfold kZ;simp
 unfold iG
 rw [key];simp
theorem D5 (l:List aF) (h:l.length≤1000):mV l l=some true:=by
 have key:av (kC l l) FUEL 0=some (.brk ()):=by
  refine aH (fun t=>(t:Int)) l.length _ (fuel_lt (by omega)) (fun t ht=> ?_) ?_
  ·unfold kC
   rw [decide_eq_true (show(t:Int)<(l.length:Int) by omega),cond_true,aj ⟨by omega,by omega⟩,wr (by omega)]
   simp
  ·unfold kC;simp
 unfold mV
 rw [key];simp
theorem AP (l:List Source) (h:l.length≤1000):lg l l=some true:=by
 have key:av (jl l l) FUEL 0=some (.brk ()):=by
  refine aH (fun t=>(t:Int)) l.length _ (fuel_lt (by omega)) (fun t ht=> ?_) ?_
  ·unfold jl
   rw [decide_eq_true (show(t:Int)<(l.length:Int) by omega),cond_true,aj ⟨by omega,by omega⟩,wr (by omega)]
   simp
  ·unfold jl;simp
 unfold lg
 rw [key];simp
theorem CY (l:List aJ) (h:l.length≤1000):mQ l l=some true:=by
 have key:av (ku l l) FUEL 0=some (.brk ()):=by
  refine aH (fun t=>(t:Int)) l.length _ (fuel_lt (by omega)) (fun t ht=> ?_) ?_
  ·unfold ku
   rw [decide_eq_true (show(t:Int)<(l.length:Int) by omega),cond_true,aj ⟨by omega,by omega⟩,wr (by omega)]
   simp
  ·unfold ku;simp
 unfold mQ
 rw [key];simp
theorem EF (x:Link) (h:x.trip.length≤1000):nY x x=some true:=by
 unfold nY
 rw [D5 _ h];simp [gB]
theorem Cq (l:List Link) (h:l.length≤1000) (ht: ∀x∈l,x.trip.length≤1000):mR l l=some true:=by
 have key:av (kE l l) FUEL 0=some (.brk ()):=by
  refine aH (fun t=>(t:Int)) l.length _ (fuel_lt (by omega)) (fun t htl=> ?_) ?_
  ·unfold kE
   rw [decide_eq_true (show(t:Int)<(l.length:Int) by omega),cond_true,Int.toNat_natCast,EF _ (ht _ (at_mem htl)),Option.bind_some,aj ⟨by omega,by omega⟩,wr (by omega)]
   rfl
  ·unfold kE;simp
 unfold mR
 rw [key];simp
theorem DR (p:ai) (h1:p.sources.length≤60) (h2:p.links.length≤60) (h3:p.racks.length≤60) (h4: ∀x∈p.links,x.trip.length≤20):mU p p=some true:=by
 unfold mU
 rw [AP _ (by omega),Cq _ (by omega) (fun x hx=>by have:=h4 x hx;omega),CY _ (by omega)]
 simp [gB]
theorem M8 (x n:Int) (hn:n≤9223372036854775807): ∃b:Int,vv x n=some b:=by
 unfold vv
 by_cases h:n<1
 ·rw [decide_eq_true h];exact⟨0,rfl⟩
 ·rw [decide_eq_false h,cond_false,aj (by omega)]
  cases decide (x.tmod n<0)<;>exact⟨_,rfl⟩
theorem Ni (l:List Bool) (h:l.length≤1000000000):av dH FUEL (l,0)=some (.brk ()):=by
 have key:av dH FUEL (tab l.length (fun k=>if k<0 then !at' l k else at' l k),((0:Nat):Int))=some (.brk ()):=by
  refine aH (body:=dH) (fun t=>(tab l.length (fun k=>if k<t then !at' l k else at' l k),(t:Int))) l.length _ (fuel_lt (by omega)) (fun t ht=> ?_) ?_
  ·unfold dH
   simp only [aG]
   rw [decide_eq_true (show(t:Int)<(l.length:Int) by omega),cond_true,aj (by omega),wr (by omega),Int.toNat_natCast,iT ht,if_neg (Nat.lt_irrefl _),vE]
   congr 2
   rw [Prod.mk.injEq]
   refine⟨bR fun v hv=> ?_,by omega⟩
   by_cases e:v=t
   ·subst e;rw [if_pos rfl,if_pos (by omega)]
   ·rw [if_neg e]
    by_cases q:v<t
    ·rw [if_pos q,if_pos (by omega)]
    ·rw [if_neg q,if_neg (by omega)]
  ·unfold dH
   simp only [aG]
   rw [decide_eq_false (show ¬ (l.length:Int)<(l.length:Int) by omega),cond_false]
 have e0:(tab l.length fun k=>if k<0 then !at' l k else at' l k)=l:=by
  rw [bR (g:=at' l) fun v _=>if_neg (Nat.not_lt_zero v),OI]
 rw [e0]at key
 exact key
theorem Ir {p:ai} (hp:Small p) (s:State) (bus:Int): ∃(C:aA) (e:Int),bI p s bus=some (C,e)∧bT p s bus=some (toR C,e)∧C.events.length≤1000∧yI C.state∧
  (∃r,fq p s bus=some r∧je p s bus=some r)∧ ∃l e',kg p s bus=some (l,e')∧lZ p s bus=some (l,e')∧l.length≤24:=by
 by_cases h:gV p s=0∧0≤bus∧bus<p.buses
 ·obtain⟨h0,hb0,hb1⟩:=h
  obtain⟨hv,hs⟩:=jk.mp h0
  obtain⟨b,rfl⟩: ∃b:Nat,bus=(b:Int):=⟨bus.toNat,by omega⟩
  obtain⟨C,h1,h2,h3,h4,_,h5⟩:=Cj hv (b:=b) hb1 hs
  exact⟨C,0,h1,h2,by omega,h4.small hv,xq h1 h2 (fun h=>absurd rfl h) (by omega) h5,MF hv hs hb1 h1 h2 h4⟩
 ·obtain⟨C,e,he,hC,h1,h2⟩:=Nj hp (s:=s) (b:=bus) (by
   by_cases h0:gV p s=0
   ·right
    by_cases hb:bus<0
    ·exact .inl hb
    ·right
     by_cases hb2:p.buses≤bus
     ·exact hb2
     ·exact absurd ⟨h0,by omega,by omega⟩ h
   ·exact .inl h0)
  refine⟨C,e,h1,h2,by rw [hC];simp,by rw [hC];exact⟨by simp,by simp,by simp,by simp,by simp,by simp,by simp⟩,xq h1 h2 (fun _=>by rw [hC]) (by rw [hC];simp) (by rw [hC];simp),[],e, ?_, ?_,by simp⟩
  ·unfold kg
   rw [h1,Option.bind_some]
   simp only [decide_eq_false he]
   rfl
  ·unfold lZ
   rw [h2,Option.bind_some]
   simp only [decide_eq_false he]
   rfl
theorem A7 (p:ai) (s:State) (bus:Int) (hp:Small p) (hb:p.buses≤9223372036854775807) (hs:L8 s):fw p s bus=some true:=by
 unfold fw
 obtain⟨B,hB,hB2⟩:=JE hp
 rw [hB,Option.bind_some,vC]
 cases B with
 |true=>rfl
 |false=>
  obtain⟨b1,b2,b3,b4⟩:=hB2 rfl
  obtain⟨q,hq⟩:=M8 bus p.buses hb
  rw [cond_false,Gt p b1 b2 b3 b4,Option.bind_some,Dn s hs,Option.bind_some,hq,Option.bind_some]
  have key:av (gT p s bus p s q) FUEL 0=some (.brk ()):=by
   refine aH (fun t=>(t:Int)) 2 _ (fuel_lt (by omega)) (fun t ht=> ?_) ?_
   ·unfold gT
    have hlen:[bus,q].length=2:=rfl
    rw [decide_eq_true (show(t:Int)<([bus,q].length:Int) by omega),cond_true,aj (by omega),wr (by omega)]
    generalize at' [bus,q] (t:Int).toNat=x
    obtain⟨C,e,h1,h2,h3,h4,⟨r,r1,r2⟩,l,e',l1,l2,l3⟩:=Ir hp s x
    rw [h1,h2,r1,r2,l1,l2]
    simp only [Option.bind_some,decide_true,Bool.not_true]
    rw [show(bif gB [(false,false)]then jq C (toR C)else some default)=jq C (toR C)from rfl,EQ C h3 h4,Option.bind_some]
    simp only [Bool.not_true,cond_false]
    rw [Ni _ h4.l1]
    simp only [Option.bind_some]
    rw [show(bif gB [(false,false)]then iG l l else some default)=iG l l from rfl,EL l (by omega)]
    simp
   ·unfold gT
    rfl
  rw [key]
  simp only [Option.bind_some]
  rw [DR p b1 b2 b3 b4,C8 s hs]
  simp [gB]
def WX (p:ai) (s:State) (amps bus n:Int):Option (aZ Int (Ex Unit Bool)):=
 (dD p s (at' p.links ((Int.tmod n 4).toNat)) amps).bind fun r_1=>
 (bif gB [((!r_1),false)]then fw p s bus else some default).bind fun r_2=>
 bB ((4≠(0:Int))∧((0:Int)≤(Int.tmod n 4)∧(Int.tmod n 4)<(p.links.length:Int))∧(gB [((!r_1),false)]=true→6≠(0:Int))) (
 bif (bif (!r_1)then true else(!r_2))then
 some (.done (.ret false))
 else
 some (.next (IntKind.wrap .i64 (n+1))))
theorem Oo {p:ai} {s:State} {amps bus:Int} {n:Nat} (hp:Small p) (hb:p.buses≤9223372036854775807) (hr:L8 s) (hl:p.links.length=4):WX p s amps bus n=some (.next (IntKind.wrap .i64 (n+1))):=by
 unfold WX
 rw [sF p s _ amps hp,Option.bind_some]
 show(fw p s bus).bind _=_
 rw [A7 p s bus hp hb hr,Option.bind_some,aj ⟨by decide,⟨Int.tmod_nonneg 4 (Int.natCast_nonneg n),by rw [hl];exact Int.tmod_lt_of_pos _ (by decide)⟩,fun _=>by decide⟩]
 rfl
def Dg (n:Int) (k:Int):Bool:=decide ((IntKind.wrap .i64 (((BitVec.ofInt (IntKind.bits .i64) n &&& BitVec.ofInt (IntKind.bits .i64) k).toNat:Int)))=k)
def Xy (n:Int):ai:=⟨4,[⟨0,1,500,0,20⟩,⟨3,2,5,0,(IntKind.wrap .i64 ((10:Int)+(IntKind.wrap .i64 ((Int.tmod n 7)*10))))⟩],[⟨0,1,3,400,10,[⟨1000,400⟩,⟨10000,100⟩]⟩,⟨1,2,3,400,10,[⟨1000,(IntKind.wrap .i64 ((20:Int)+(IntKind.wrap .i64 ((Int.tmod (IntKind.wrap .i64 (Int.tdiv n 9)) 5)*20))))⟩]⟩,⟨2,3,3,5,10,[⟨1,(IntKind.wrap .i64 ((30:Int)+(IntKind.wrap .i64 ((Int.tmod n 3)*20))))⟩]⟩,⟨3,0,3,5,30,[⟨3000,60⟩,⟨6000,(IntKind.wrap .i64 ((20:Int)+(IntKind.wrap .i64 ((Int.tmod (IntKind.wrap .i64 (Int.tdiv n 3)) 3)*30))))⟩]⟩],[⟨⟨2, -1⟩,100,1⟩,⟨⟨1,2⟩,100,0⟩]⟩
def X4 (n:Int):State:=⟨[true,Dg n 1,Dg n 2,Dg n 4],[false,false,false,false],[Dg n 8,false,Dg n 16,false],[decide ((IntKind.wrap .i64 (((BitVec.ofInt (IntKind.bits .i64) n &&& BitVec.ofInt (IntKind.bits .i64) 32).toNat:Int)))=0),Dg n 64],[false,false],[false,false,false,false],[false,Dg n 128,false,false]⟩
theorem WS (n:Int) (h:decide (n<512)=true):fD n=WX (Xy n) (X4 n) (IntKind.wrap .i64 (n*40)) (IntKind.wrap .i64 ((Int.tmod n 6) - 1)) n:=by
 unfold fD
 rw [h]
 kernel_rfl
theorem Nw (n:Nat) (h:n<512):fD (n:Int)=some (.next ((n+1:Nat):Int)):=by
 rw [WS n (decide_eq_true (by omega)),Oo ⟨by show 2≤_;omega,by show 4≤_;omega,by show 2≤_;omega, ?_⟩ (by show(4:Int)≤_;omega) ⟨by show 4≤_;omega,by show 4≤_;omega,by show 4≤_;omega,by show 2≤_;omega,by show 2≤_;omega,by show 4≤_;omega,by show 4≤_;omega⟩ rfl]
 ·rw [wr (by omega)];rfl
 ·intro x hx
  simp only [Xy,List.mem_cons,List.not_mem_nil,or_false]at hx
  rcases hx with rfl|rfl|rfl|rfl<;>simp
def R7:ai:=⟨3,[⟨0,1,500,0,10⟩,⟨0,1,5,0,10⟩,⟨1,1,5,0,10⟩,⟨0,1,5,0,10⟩,⟨1,1,5,0,10⟩,⟨0,1,5,0,10⟩,⟨1,1,5,0,10⟩,⟨0,1,5,0,10⟩],[⟨0,1,3,400,10,[⟨1,100000⟩]⟩,⟨1,2,3,400,10,[]⟩],[⟨⟨2, -1⟩,100,1⟩,⟨⟨1,2⟩,100,0⟩]⟩
def UD:State:=⟨[true,true],[false,false],[false,false],[true,true,true,true,true,true,true,true],[false,false,false,false,false,false,false,false],[false,false,false],[false,false,false]⟩
theorem BV:iw=some true:=by
 have e0:av fD FUEL 0=some (.brk ()):=aH (fun i=>(i:Int)) 512 (.brk ()) (fuel_lt (by omega)) (fun i hi=>Nw i hi) (by kernel_rfl)
 have e1:iw=(dD R7 UD ⟨0,1,3,400,10,[⟨1,100000⟩]⟩ 1).bind fun r4=>(bif gB [(r4,true)]then fO else some default).bind fun r5=>some (bif r4 then r5 else false):=by
  unfold iw
  rw [e0]
  kernel_rfl
 rw [e1,sF R7 UD _ 1 ⟨by show 8≤_;omega,by show 2≤_;omega,by show 2≤_;omega, ?_⟩,Option.bind_some]
 ·show(fO).bind _=_
  rw [vC];rfl
 ·intro x hx
  simp only [R7,List.mem_cons,List.not_mem_nil,or_false]at hx
  rcases hx with rfl|rfl<;>simp
end Sg
