import Derived.Test.YtpndenfhglaikaaGreatLc
set_option linter.all false
namespace Sg
open Go
structure fD (P:Program) (f:Nat) (args:List SV) (hin:List (Nat × Option Ob)) {R:Type} (res:R→TV) (hout:R→List (Nat × Option Ob)) (o:Option R):Prop where
 run: ∀{r:R},o=some r→Fn P f args hin (res r) (hout r)
instance {P:Program} {f:Nat} {args:List SV} {hin:List (Nat × Option Ob)} {R:Type} {res:R→TV} {hout:R→List (Nat × Option Ob)} {o:Option R}:CoeFun (fD P f args hin res hout o) (fun _=> ∀{r:R},o=some r→Fn P f args hin (res r) (hout r)):=⟨fun h=>h.run⟩
section
variable {P:Program} {T:List (Nat × TI)}
theorem gI (hT:su P T) (hm:P.follows .mixedOrders=true) {f:Nat} {fn:Func} {args:List SV} {hin:List (Nat × Option Ob)} {R:Type} {res:R→TV} {hout:R→List (Nat × Option Ob)} {o:Option R} (hf:P.funcs[f]? =some fn) (s:Sc R)
  (hb:fn.body=some (sW fn):=by kernel_rfl) (hn:(fn.name== "runtime.NumGoroutine")=false:=by kernel_rfl)
  (hs:(tr true P T (args.length+(fn.ntmps - args.length)) (hin.map (·.1)) s (go FU (.c (sW fn)) []) ⟨slotsOf 0 args,hin⟩ [] [] (.fn T fn.results.toList res hout)).side true=(tr true P T (args.length+(fn.ntmps - args.length)) (hin.map (·.1)) s (go FU (.c (sW fn)) []) ⟨slotsOf 0 args,hin⟩ [] [] (.fn T fn.results.toList res hout)).side false:=by kernel_rfl)
  (hd:(tr true P T (args.length+(fn.ntmps - args.length)) (hin.map (·.1)) s (go FU (.c (sW fn)) []) ⟨slotsOf 0 args,hin⟩ [] [] (.fn T fn.results.toList res hout)).den=o:=by kernel_rfl):fD P f args hin res hout o:=by
 refine⟨fun{r} hr=> ?_⟩
 refine NH hT hf hb hn fun B=> ?_
 have h:=go_ok (n:=FU) (x:= .c (sW fn)) (K:=[]) (Va (rd:=none) (q:=true) (B:=B) (fun _=>rfl) hT hm s (Tr.BF hs) trivial (hd.trans hr))
 refine ow (iQ h fun e st hq=> ?_)
 exact hq
theorem Wx: ∀{l:CP},l.map (·.1)=l.map (·.2)→l.ok
 |[],_=>trivial
 |e::l,h=>by
  simp only [List.map_cons,List.cons.injEq]at h
  exact⟨h.1,Wx h.2⟩
theorem BB {f:Nat} {args:List SV} {hin:List (Nat × Option Ob)} {R:Type} {res:R→TV} {hout:R→List (Nat × Option Ob)} {o:Option R} (l:List (Nat × Nat)) (h:fD P f args hin res hout o):
  fD P f (args.map (SV.ren (swp l))) (xM (swp l) hin) (fun r=>(res r).ren (swp l)) (fun r=>xM (swp l) (hout r)) o:=⟨fun hr=>Fn.VH l (h hr) rfl rfl rfl rfl⟩
theorem leO {f:Nat} {args:List SV} {hin:List (Nat × Option Ob)} {R:Type} {res:R→TV} {hout:R→List (Nat × Option Ob)} {o:Option R} (args':List SV) (h:fD P f args hin res hout o) (h1:(AJ args args').1.map (·.1)=(AJ args args').1.map (·.2):=by kernel_rfl) (h2:(AJ args args').2=args:=by kernel_rfl):
  fD P f args' hin res hout o:=⟨fun hr=>Fn.le (h hr) (by have:=IZ (Wx h1);rwa [h2]at this)⟩
structure X8 (P:Program) (b:Nat) (args:List SV) (hin:List (Nat × Option Ob)) {R:Type} (res:R→TV) (hout:R→List (Nat × Option Ob)) (o:Option R):Prop where
 run: ∀{r:R},o=some r→Yl P b args hin (res r) (hout r)
instance {b:Nat} {args:List SV} {hin:List (Nat × Option Ob)} {R:Type} {res:R→TV} {hout:R→List (Nat × Option Ob)} {o:Option R}:CoeFun (X8 P b args hin res hout o) (fun _=> ∀{r:R},o=some r→Yl P b args hin (res r) (hout r)):=⟨fun h=>h.run⟩
theorem rkY {b:Nat} {args:List SV} {hin:List (Nat × Option Ob)} {R:Type} {res:R→TV} {hout:R→List (Nat × Option Ob)} {o:Option R} (l:List (Nat × Nat)) (h:X8 P b args hin res hout o):
  X8 P (swp l b) (args.map (SV.ren (swp l))) (xM (swp l) hin) (fun r=>(res r).ren (swp l)) (fun r=>xM (swp l) (hout r)) o:=⟨fun hr=>Yl.VH l (h hr) rfl rfl rfl rfl rfl⟩
def wI (lb:Nat) (rec:iG) (args:List SV) (hin:List (Nat × Option Ob)):St:=match get hin lb with
 |some (some (.loop _ _ sl))=> ⟨zL rec.ps args++sl,hin⟩
 |_=> ⟨[],[]⟩
def UI (lb:Nat) (st:St):St:=⟨st.slots,DR lb 1 st.heap⟩
def Nt (_:iG) (x:Option (Option Ob)):List Ck:=match x with
 |some (some (.loop r 0 sl))=>[.ob (some (.loop r 0 sl))]
 |_=>[.b true]
def D9 (rec:iG) (x:Option (Option Ob)):List Ck:=match x with
 |some (some (.loop _ 0 sl))=>[.ob (some (.loop rec 0 sl))]
 |_=>[.b false]
theorem LK {rec:iG} {x:Option (Option Ob)} (h:Nt rec x=D9 rec x): ∃sl,x=some (some (.loop rec 0 sl)):=by
 unfold Nt D9 at h
 split at h
 ·simp only [List.cons.injEq,Ck.ob.injEq,Option.some.injEq,Ob.loop.injEq,and_true]at h
  subst h;exact⟨_,rfl⟩
 ·simp at h
theorem scY (hT:su P T) (hm:P.follows .mixedOrders=true) {lb:Nat} (rec:iG) {args:List SV} {hin:List (Nat × Option Ob)} {R:Type} {res:R→TV} {hout:R→List (Nat × Option Ob)} {o:Option R} (t:Tg Unit) (a:Sc Unit) (s:Sc R)
  (h0:Nt rec (get hin lb)=D9 rec (get hin lb):=by kernel_rfl) (h1:Nt rec (get (t.at (wI lb rec args hin) ()).heap lb)=D9 rec (get (t.at (wI lb rec args hin) ()).heap lb):=by kernel_rfl)
  (hb:(Nat.beq rec.ps.length args.length && (zk rec.ps && rec.ps.all (fun t=>Nat.blt t rec.N)))=true:=by kernel_rfl)
  (ha:(tr false P T rec.N (hin.map (·.1)) a (go FU (.c rec.assign) []) (wI lb rec args hin) [] [] (.jN (t.at (wI lb rec args hin)))).side true=(tr false P T rec.N (hin.map (·.1)) a (go FU (.c rec.assign) []) (wI lb rec args hin) [] [] (.jN (t.at (wI lb rec args hin)))).side false:=by kernel_rfl)
  (had:(tr false P T rec.N (hin.map (·.1)) a (go FU (.c rec.assign) []) (wI lb rec args hin) [] [] (.jN (t.at (wI lb rec args hin)))).den=some ():=by kernel_rfl)
  (hs:(tr false P T rec.N (hin.map (·.1)) s (go FU (.c rec.body) []) (UI lb (t.at (wI lb rec args hin) ())) [] [] (.yl lb rec res hout)).side true=(tr false P T rec.N (hin.map (·.1)) s (go FU (.c rec.body) []) (UI lb (t.at (wI lb rec args hin) ())) [] [] (.yl lb rec res hout)).side false:=by kernel_rfl)
  (hd:(tr false P T rec.N (hin.map (·.1)) s (go FU (.c rec.body) []) (UI lb (t.at (wI lb rec args hin) ())) [] [] (.yl lb rec res hout)).den=o:=by kernel_rfl):X8 P lb args hin res hout o:=by
 refine⟨fun{r} hr=> ?_⟩
 obtain⟨sl,g0⟩:=LK h0
 obtain⟨sl2,g1⟩:=LK h1
 simp only [Bool.and_eq_true]at hb
 have e0:wI lb rec args hin=⟨zL rec.ps args++sl,hin⟩:=by unfold wI;rw [g0]
 refine V9 (r:=rec) (sl:=sl) (sl1:=(t.at (wI lb rec args hin) ()).slots) (h1:=(t.at (wI lb rec args hin) ()).heap) (sl2:=sl2) g0 (Nat.eq_of_beq_eq_true hb.1) hb.2.1 hb.2.2 (fun rd B=> ?_) g1 fun rd B=> ?_
 ·have h:=go_ok (n:=FU) (x:= .c rec.assign) (K:=[]) (Va (rd:=rd) (q:=false) (B:=B) (fun h=>by cases h) hT hm a (Tr.BF ha) trivial had)
  rw [←e0]
  exact ow (iQ h fun e st hq=>by
   obtain⟨s',hi,hq⟩:=hq
   exact⟨s',hi,hq.1,hq.2⟩)
 ·have h:=go_ok (n:=FU) (x:= .c rec.body) (K:=[]) (Va (rd:=rd) (q:=false) (B:=B) (fun h=>by cases h) hT hm s (Tr.BF hs) trivial (hd.trans hr))
  exact ow (iQ h fun e st hq=>hq)
end
namespace Sc
variable {P:Program}
def cy {b:Nat} {args:List SV} {hin:List (Nat × Option Ob)} {R T:Type} {res:T→TV} {hout:T→List (Nat × Option Ob)} {o:Option T} (i:Nat) (h:X8 P b args hin res hout o) (k:T→Sc R):Sc R:=
 .bd o (fun y=>Yl P b args hin (res y) (hout y)) (fun _ hy=>h hy) (fun y=>[(i, .call (sJ hin) (res y) (hout y))]) k
def cl {f:Nat} {args:List SV} {hin:List (Nat × Option Ob)} {R T:Type} {res:T→TV} {hout:T→List (Nat × Option Ob)} {o:Option T} (i:Nat) (h:fD P f args hin res hout o) (k:T→Sc R):Sc R:=
 .bd o (fun y=>Fn P f args hin (res y) (hout y)) (fun _ hy=>h hy) (fun y=>[(i, .call (sJ hin) (res y) (hout y))]) k
def cr {f:Nat} {args:List SV} {hin:List (Nat × Option Ob)} {R T:Type} {res:T→TV} {hout:T→List (Nat × Option Ob)} {o:Option T} (i:Nat) (h:fD P f args hin res hout o) (k:T→Sc R):Sc R:=
 .bd o (fun y=>Fn P f args hin (res y) (hout y)) (fun _ hy=>h hy) (fun y=>[(i, .callR (sJ hin) (res y))]) k
def cg {f:Nat} {args:List SV} {hin:List (Nat × Option Ob)} {R T:Type} [Inhabited T] {res:T→TV} {hout:T→List (Nat × Option Ob)} {o:Option T} (i:Nat) (g:List (Bool × Bool)) (h:fD P f args hin res hout o) (k:T→Sc R):Sc R:=
 .bd (bif gB g then o else some default) (fun y=>gB g=true→Fn P f args hin (res y) (hout y)) (fun _ hy hg=>h (Zo hy hg)) (fun y=>[(i, .call (sJ hin) (res y) (hout y))]) k
def cgr {f:Nat} {args:List SV} {hin:List (Nat × Option Ob)} {R T:Type} [Inhabited T] {res:T→TV} {hout:T→List (Nat × Option Ob)} {o:Option T} (i:Nat) (g:List (Bool × Bool)) (h:fD P f args hin res hout o) (k:T→Sc R):Sc R:=
 .bd (bif gB g then o else some default) (fun y=>gB g=true→Fn P f args hin (res y) (hout y)) (fun _ hy hg=>h (Zo hy hg)) (fun y=>[(i, .callR (sJ hin) (res y))]) k
section
variable {R:Type} (a b c d e f:Prop) [Decidable a] [Decidable b] [Decidable c] [Decidable d] [Decidable e] [Decidable f]
def a1 (k:Sc R):Sc R:= .as a inferInstance [a] (fun h=> ⟨h,trivial⟩) k
def a2 (k:Sc R):Sc R:= .as (a∧b) inferInstance [a,b] (fun h=> ⟨h.1,h.2,trivial⟩) k
def a3 (k:Sc R):Sc R:= .as (a∧b∧c) inferInstance [a,b,c] (fun h=> ⟨h.1,h.2.1,h.2.2,trivial⟩) k
def a4 (k:Sc R):Sc R:= .as (a∧b∧c∧d) inferInstance [a,b,c,d] (fun h=> ⟨h.1,h.2.1,h.2.2.1,h.2.2.2,trivial⟩) k
def a5 (k:Sc R):Sc R:= .as (a∧b∧c∧d∧e) inferInstance [a,b,c,d,e] (fun h=> ⟨h.1,h.2.1,h.2.2.1,h.2.2.2.1,h.2.2.2.2,trivial⟩) k
def a6 (k:Sc R):Sc R:= .as (a∧b∧c∧d∧e∧f) inferInstance [a,b,c,d,e,f] (fun h=> ⟨h.1,h.2.1,h.2.2.1,h.2.2.2.1,h.2.2.2.2.1,h.2.2.2.2.2,trivial⟩) k
end
def rs {R:Type}:Nat→Sc R→Sc R
 |0,k=>k
 |n+1,k=> .rg {} [] (rs n k)
def r {R:Type} (k:Sc R):Sc R:= .rg {} [] k
def e {R:Type} (x:R):Sc R:= .en x [] []
def t {R:Type} (k:Sc R):Sc R:= .tf true [] k
def f {R:Type} (k:Sc R):Sc R:= .tf false [] k
end Sc
def Cs.e {α:Type} (x:α):Cs:= .pf ⟨x=x,rfl⟩
def Cs.t (j:Nat) (i:Int) (n:Nat):Cs:= .dv j ⟨0≤i∧i<(n:Int),i.toNat<n,toNat_lt⟩
def Cs.tg (j:Nat) (g:List (Bool × Bool)) (i:Int) (n:Nat):Cs:= .dv j ⟨gB g=true→0≤i∧i<(n:Int),gB g=true→i.toNat<n,fun h q=>toNat_lt (h q)⟩
def Cs.oe (j n k:Nat):Cs:= .dk j ⟨n=k,Nat.beq n k=true,fun h=>by subst h;exact Nat.beq_refl n⟩
def L9 (b n:Nat):CV→CV
 | .own b' nn m=>bif Nat.beq b' b then .own b' nn n else .own b' nn m
 |c=>c
def agI (b n:Nat):SV→SV
 | .one c=> .one (L9 b n c)
 | .agg cs=> .agg (cs.map (L9 b n))
def aaf (b n:Nat):TV→TV
 | .v s=> .v (agI b n s)
 |t=>t
def aaM (b n k:Nat):Option Ob→Option Ob
 |some (.cells E cs)=>some (.cells E (cs.map (L9 b n)))
 |some (.arr E e m el)=>bif Nat.beq k b then some (.arr E e n el)else some (.arr E e m el)
 |some (.rows E e m el ov)=>bif Nat.beq k b then some (.rows E e n el ov)else some (.rows E e m el ov)
 |o=>o
def lnC (b:Nat):CV→List Nat
 | .own b' _ m=>bif Nat.beq b' b then [m]else []
 |_=>[]
def lnS (b:Nat) (s:SV):List Nat:=(cellsOf s).flatMap (lnC b)
def lnT (b:Nat):TV→List Nat
 | .v s=>lnS b s
 |_=>[]
def lnO (b k:Nat):Option Ob→List Nat
 |some (.cells _ cs)=>cs.flatMap (lnC b)
 |some (.arr _ _ m _)=>bif Nat.beq k b then [m]else []
 |some (.rows _ _ m _ _)=>bif Nat.beq k b then [m]else []
 |_=>[]
def Xz (b:Nat) (st:St):List Nat:=(st.slots.flatMap fun p=>lnT b p.2)++st.heap.flatMap fun p=>lnO b p.1 p.2
theorem RJ {b n:Nat} {c:CV} (h: ∀x∈lnC b c,x=n):L9 b n c=c:=by
 cases c<;>try rfl
 rename_i b' nn m
 simp only [lnC]at h
 simp only [L9]
 cases hb:Nat.beq b' b with
 |true=>rw [hb]at h;rw [h m (List.mem_singleton.2 rfl)];rfl
 |false=>rfl
theorem MC {b n:Nat}: ∀{cs:List CV},(∀x∈cs.flatMap (lnC b),x=n)→cs.map (L9 b n)=cs
 |[],_=>rfl
 |c::cs,h=>by
  rw [List.map_cons,RJ (fun x hx=>h x (by rw [List.flatMap_cons];exact List.mem_append_left _ hx)),MC (fun x hx=>h x (by rw [List.flatMap_cons];exact List.mem_append_right _ hx))]
theorem XY {b n:Nat} {t:TV} (h: ∀x∈lnT b t,x=n):aaf b n t=t:=by
 cases t with
 |iP l=>rfl
 |v s=>
  cases s with
  |one c=>show TV.v (.one (L9 b n c))=_;rw [RJ (fun x hx=>h x (by show x∈[c].flatMap (lnC b);simpa using hx))]
  |agg cs=>
   have:=MC (cs:=cs) h
   show TV.v (.agg (cs.map (L9 b n)))=_
   rw [this]
theorem Yx {b n k:Nat} {o:Option Ob} (h: ∀x∈lnO b k o,x=n):aaM b n k o=o:=by
 cases o with
 |none=>rfl
 |some o=>
  cases o<;>try rfl
  ·rename_i E cs
   have:=MC (cs:=cs) h
   show some (Ob.cells E (cs.map (L9 b n)))=_
   rw [this]
  ·simp only [lnO]at h
   show(bif Nat.beq k b then _ else _)=_
   cases hb:Nat.beq k b with
   |true=>rw [hb]at h;rw [h _ (List.mem_singleton.2 rfl)];rfl
   |false=>rfl
  ·simp only [lnO]at h
   show(bif Nat.beq k b then _ else _)=_
   cases hb:Nat.beq k b with
   |true=>rw [hb]at h;rw [h _ (List.mem_singleton.2 rfl)];rfl
   |false=>rfl
def Zf (b n:Nat) (st:St):St:=⟨st.slots.map fun p=>(p.1,aaf b n p.2),st.heap.map fun p=>(p.1,aaM b n p.1 p.2)⟩
theorem WJ {b n:Nat} {st:St} (h: ∀x∈Xz b st,x=n):Zf b n st=st:=by
 obtain⟨sl,hp⟩:=st
 have h1: ∀{l:List (Nat × TV)},(∀x∈l.flatMap fun p=>lnT b p.2,x=n)→(l.map fun p=>(p.1,aaf b n p.2))=l:=by
  intro l
  induction l with
  |nil=>intro _;rfl
  |cons p l ih=>intro h;rw [List.map_cons,ih (fun x hx=>h x (by rw [List.flatMap_cons];exact List.mem_append_right _ hx)),XY (fun x hx=>h x (by rw [List.flatMap_cons];exact List.mem_append_left _ hx))]
 have h2: ∀{l:List (Nat × Option Ob)},(∀x∈l.flatMap fun p=>lnO b p.1 p.2,x=n)→(l.map fun p=>(p.1,aaM b n p.1 p.2))=l:=by
  intro l
  induction l with
  |nil=>intro _;rfl
  |cons p l ih=>intro h;rw [List.map_cons,ih (fun x hx=>h x (by rw [List.flatMap_cons];exact List.mem_append_right _ hx)),Yx (fun x hx=>h x (by rw [List.flatMap_cons];exact List.mem_append_left _ hx))]
 show St.mk _ _=_
 rw [h1 (fun x hx=>h x (List.mem_append_left _ hx)),h2 (fun x hx=>h x (List.mem_append_right _ hx))]
def IS.ln (b n m:Nat) (h:n=m):IS where
 act st:=(Xz b st).map .n
 want st:=(Xz b st).map fun _=> .n n
 nxt st:=Zf b m st
 ok B N L st hs:=by
  subst h
  rw [WJ]
  ·exact .refl
  ·revert hs
   generalize Xz b st=l
   induction l with
   |nil=>intro _ x hx;simp at hx
   |cons y l ih=>
    intro hs x hx
    simp only [List.map_cons,List.cons.injEq,Ck.n.injEq]at hs
    rcases List.mem_cons.1 hx with rfl|hx
    ·exact hs.1
    ·exact ih hs.2 x hx
def IS.ll {α:Type} (b:Nat) (l m:List α) (h:l.length=m.length:=by simp only [List.length_set,List.length_append,List.length_cons,List.length_nil,List.length_replicate,List.length_drop]):IS:= .ln b _ _ h
def IS.us (t:Nat) (x y:TV) (h:zu x y):IS where
 act st:=match get st.slots t with|some v=>[.tv v, .b true]|none=>[.tv x, .b false]
 want _:=[.tv x, .b true]
 nxt st:=⟨GA t y st.slots,st.heap⟩
 ok B N L st hs:=by
  cases hg:get st.slots t with
  |none=>rw [hg]at hs;simp at hs
  |some v=>
   rw [hg]at hs
   simp only [List.cons.injEq,Ck.tv.injEq,and_true]at hs
   subst hs
   exact Sg.us t y hg h
def IS.uh (b:Nat) (x y:Option Ob) (h:Ny x y):IS where
 act st:=match get st.heap b with|some v=>[.hp [(b,v)], .b true]|none=>[.b false]
 want _:=[.hp [(b,x)], .b true]
 nxt st:=⟨st.slots,GA b y st.heap⟩
 ok B N L st hs:=by
  cases hg:get st.heap b with
  |none=>rw [hg]at hs;simp at hs
  |some v=>
   rw [hg]at hs
   simp only [List.cons.injEq,Ck.hp.injEq,Prod.mk.injEq,true_and,and_true]at hs
   subst hs
   exact Sg.uh b y hg h
def IS.ad (t b E esz:Nat) (el:Nat→Nat→DV):IS where
 act st:=match get st.slots t,get st.heap b with
  |some (.v (.one (.d (.sl (some false) _ l _)))),none=>[.n l, .b true]
  |_,_=>[.b false]
 want _:=[.n 0, .b true]
 nxt st:=⟨(t, .v (.one (.own b false 0)))::st.slots,(b,some (.arr E esz 0 el))::st.heap⟩
 ok B N L st hs:=by
  split at hs
  ·rename_i e l f h1 h2
   simp only [List.cons.injEq,Ck.n.injEq,and_true]at hs
   subst hs
   exact d9.WH h1 h2
  ·simp at hs
def IS.P5 (p q b E esz:Nat) (el:Nat→Nat→DV):IS where
 act st:=match get st.heap p,get st.heap b with
  |some (some (.cells _ cs)),none=>match cs[q]? with
   |some (.d (.sl (some false) _ l _))=>[.n l, .b true]
   |_=>[.b false]
  |_,_=>[.b false]
 want _:=[.n 0, .b true]
 nxt st:=match get st.heap p with
  |some (some (.cells E0 cs))=> ⟨st.slots,(p,some (.cells E0 (cs.set q (.own b false 0))))::(b,some (.arr E esz 0 el))::st.heap⟩
  |_=>st
 ok B N L st hs:=by
  split at hs
  ·rename_i E0 cs h1 h2
   split at hs
   ·rename_i e l f h3
    simp only [List.cons.injEq,Ck.n.injEq,and_true]at hs
    subst hs
    rw [h1]
    exact d9.xY (E:=0) (esz:=0) (fun _ _ _ _ h=> .inl ⟨h,rfl⟩) h1 h3 h2
   ·simp at hs
  ·simp at hs
def IS.re (p q b b':Nat):IS where
 act st:=match get st.heap p,get st.heap b,get st.heap b' with
  |some (some (.cells _ cs)),some (some (.arr _ _ _ _)),none=>match cs[q]? with
   |some (.own k _ _)=>[.n k, .b true]
   |_=>[.b false]
  |_,_,_=>[.b false]
 want _:=[.n b, .b true]
 nxt st:=match get st.heap p,get st.heap b with
  |some (some (.cells E0 cs)),some (some (.arr E esz n el))=>match cs[q]? with
   |some (.own _ nn len)=> ⟨st.slots,(p,some (.cells E0 (cs.set q (.own b' nn len))))::(b',some (.arr E esz n el))::(b,none)::st.heap⟩
   |_=>st
  |_,_=>st
 ok B N L st hs:=by
  split at hs
  ·rename_i E0 cs E esz n el h1 h2 h3
   split at hs
   ·rename_i k nn len h4
    simp only [List.cons.injEq,Ck.n.injEq,and_true]at hs
    subst hs
    rw [h1,h2]
    simp only [h4]
    exact d9.adR h1 h4 h2 h3
   ·simp at hs
  ·simp at hs
def Sc.sb {R:Type} (t:Nat) (b x y v:Bool) (j:Nat) (k:Sc R):Sc R:=
 .wi j {
  p:=b=v,act:=(fun st=>match get st.slots t with|some w=>[.tv w, .b true]|none=>[.tv (vB x), .b false]),want:=fun _=>[.tv (vB (bif b then x else y)), .b true],nxt:=fun st=> ⟨GA t (vB (bif v then x else y)) st.slots,st.heap⟩,
  ok:=fun hp B N L st hs=>by
   subst hp
   cases hg:get st.slots t with
   |none=>rw [hg]at hs;simp at hs
   |some w=>
    rw [hg]at hs
    simp only [List.cons.injEq,Ck.tv.injEq,and_true]at hs
    subst hs
    exact Sg.us t _ hg (.refl _)} k
def Sc.sn {R:Type} (t:Nat) (x q:Int) (p:Prop) (h:p→x=q) (j:Nat) (k:Sc R):Sc R:=
 .wi j {
  p:=p,act:=(fun st=>match get st.slots t with|some w=>[.tv w, .b true]|none=>[.tv (vI x), .b false]),want:=fun _=>[.tv (vI x), .b true],nxt:=fun st=> ⟨GA t (vI q) st.slots,st.heap⟩,
  ok:=fun hp B N L st hs=>by
   have:=h hp
   subst this
   cases hg:get st.slots t with
   |none=>rw [hg]at hs;simp at hs
   |some w=>
    rw [hg]at hs
    simp only [List.cons.injEq,Ck.tv.injEq,and_true]at hs
    subst hs
    exact Sg.us t _ hg (.refl _)} k
def Sc.si {R:Type} (t:Nat) (x q:Int) (j:Nat) (k:Sc R):Sc R:=Sc.sn t x q (decide (x=q)=true) of_decide_eq_true j k
def Sc.sj {R:Type} (t:Nat) (x q:Int) (j:Nat) (k:Sc R):Sc R:=Sc.sn t x q (x=q) id j k
def Sc.un {α R:Type} [Inhabited α] (b c E esz:Nat) (cf:α→Nat→DV) (l:List α) (q:Int) (j:Nat) (k:Sc R):Sc R:=
 .wi j {
  p:=0≤q∧q≤(l.length:Int),act:=(fun st=>match get st.heap b,get st.heap c with|some x,some y=>[.ob x, .ob y, .b (Nat.ble 1 esz)]|_,_=>[.b false]),
  want:=fun _=>[.ob (some (.arr E esz l.length (au cf l))), .ob (some (.suf b q.toNat esz)), .b true],nxt:=fun st=> ⟨st.slots,(c,some (.arr E esz (l.length - q.toNat) (au cf (l.drop q.toNat))))::(b,none)::st.heap⟩,
  ok:=fun hp B N L st hs=>by
   split at hs
   ·rename_i x y h1 h2
    simp only [List.cons.injEq,Ck.ob.injEq,Ck.b.injEq,and_true]at hs
    obtain⟨rfl,rfl,hz⟩:=hs
    exact d9.abU h1 h2 (by omega) (by have:=Nat.le_of_ble_eq_true hz;omega)
   ·simp at hs} k
def IS.tr (b E esz len:Nat) (el:Nat→Nat→DV) (el':Nat→Nat→EV) (h: ∀i,i<len→ ∀j,j<esz→SC (el i j) (el' i j)):IS where
 act st:=match get st.heap b with|some x=>[.ob x]|none=>[.b false]
 want _:=[.ob (some (.arr E esz len el))]
 nxt st:=⟨st.slots,(b,some (.rows E esz len el' none))::st.heap⟩
 ok B N L st hs:=by
  split at hs
  ·rename_i x h1
   simp only [List.cons.injEq,Ck.ob.injEq,and_true]at hs
   subst hs
   exact d9.M7 h1 h
  ·simp at hs
end Sg
