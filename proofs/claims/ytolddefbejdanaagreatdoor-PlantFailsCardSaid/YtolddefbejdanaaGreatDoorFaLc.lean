import Derived.Test.YtolddefbejdanaaGreatDoorFaLb
import Derived.RangeFuncIn
import Derived.RangeFuncRecord
import Derived.LoopNIn
import Derived.Deep.Slices
import Derived.OpenShut
import Derived.Carry
import Derived.Maps.RangeRun
set_option linter.all false
namespace Sg
open Go
section
variable {rd:Option Nat} {P:Program} {B:Base} {N:Nat} {L:List Nat} {T:List (Nat × TI)} {Q:Exit→St→Prop} {st st' st'':St}
def jQ (B:Base) (N:Nat) (L:List Nat) (st st':St):Prop:= ∀a w,Conc B N L st a w→Conc B N L st' a w
theorem jQ.refl:jQ B N L st st:=fun _ _ h=>h
theorem jQ.trans (h:jQ B N L st st') (h':jQ B N L st' st''):jQ B N L st st'':=fun a w hc=>h' a w (h a w hc)
theorem jQ.le (h:Nr st st'):jQ B N L st st':=fun _ _ hc=>hc.le h
theorem jQ.fin (fin:Fin) (ts:List Nat) {cs:List Prop} (he:finish L fin ts [] (qN st)=some (cs,st')) (hc:All cs):jQ B N L st st':=
 fun _ _ hconc=>qh (yb:=fun _=>false) he hc (tu hconc) hconc.ids
theorem og {c:Code} (h:jQ B N L st st') (hw:jy rd P B N L c Q st'):jy rd P B N L c Q st:=fun a w hc=>hw a w (h a w hc)
theorem lH {c:Code} (hw:jy rd P B N L c (fun e s=> ∃s',jQ B N L s s'∧Q e s') st):jy rd P B N L c Q st:=
 fun a w hc=>wpIn_mono (hw a w hc) fun _ a' w' ⟨_,⟨s',hi,hq⟩,h2⟩=> ⟨s',hq,hi a' w' h2⟩
theorem Fq (hT:lD P T) {id:Nat} {ops:Array Oper} (st1:St) (x:z8) {cs:List Prop} (he:FD (DW P) T ops N L x st=some (cs,st1)) (hc:All cs) (hi:jQ B N L st1 st') (hQ:Q .normal st'):jy rd P B N L (.region id ops false) Q st:=
 lH (yC hT x he hc ⟨_,hi,hQ⟩)
theorem jQ.IK {t b:Nat} {esz0:Nat} {el0:Nat→Nat→DV} {ob:Ob} (hob: ∀ρ F w S,ρ b=some .nil→iC ρ F w S b ob) (ht:get st.slots t=some (.v (.one (.d (.sl (some false) esz0 0 el0))))) (hb:get st.heap b=none):
  jQ B N L st ⟨(t, .v (.one (.own b false 0)))::st.slots,(b,some ob)::st.heap⟩:=by
 intro a w hc
 obtain⟨⟨ρ,F,hfr,hhi,hs,dn⟩,hid,sz⟩:=hc
 have hρ:=hhi.fresh b hb
 have hn:=hhi.Ef hfr (b:=b) (nob:=ob) hb (hob _ _ _ _ (ax _ _))
 have g:Gr ρ F w (bK ρ b .nil) F w:=⟨aO hρ,fun _ h=>h,fun _ _=>rfl⟩
 have hhp:upd (aP st.heap) [(b,some ob)]=aP ((b,some ob)::st.heap):=by
  funext x;rw [kF];simp only [aP];rw [ay]
 rw [hhp]at hn
 refine⟨⟨bK ρ b .nil,F,{hfr with rho:=fun b' p' e=>aO hρ b' p' (hfr.rho b' p' e)},hn,fun t' tv ht'=> ?_,dn⟩,hid,sz⟩
 rw [ay]at ht'
 split at ht'
 ·rename_i e
  cases ht';subst e
  obtain⟨v,hv,hr⟩:=hs t _ ht
  obtain⟨ad,cap,e1,_,h2,h3,_⟩:=hr
  have:=h2 rfl;subst this
  obtain⟨_,rfl⟩:=h3 rfl
  exact⟨v,hv, .inr ⟨rfl,ax _ _,rfl,e1⟩⟩
 ·obtain⟨v,hv,hr⟩:=hs t' tv ht'
  exact⟨v,hv,hr.gr g⟩
theorem jQ.NG {t b E esz:Nat} {esz0:Nat} {el0 el:Nat→Nat→DV} (ht:get st.slots t=some (.v (.one (.d (.sl (some false) esz0 0 el0))))) (hb:get st.heap b=none):
  jQ B N L st ⟨(t, .v (.one (.own b false 0)))::st.slots,(b,some (.arr E esz 0 el))::st.heap⟩:=jQ.IK (fun _ _ _ _ h=> .inl ⟨h,rfl⟩) ht hb
theorem jQ.LB {t b E esz:Nat} {esz0:Nat} {el0:Nat→Nat→DV} {el:Nat→Nat→EV} {ov:Option (Nat × Nat × CV)} (ht:get st.slots t=some (.v (.one (.d (.sl (some false) esz0 0 el0))))) (hb:get st.heap b=none):
  jQ B N L st ⟨(t, .v (.one (.own b false 0)))::st.slots,(b,some (.rows E esz 0 el ov))::st.heap⟩:=jQ.IK (fun _ _ _ _ h=> .inl ⟨h,rfl⟩) ht hb
theorem jQ.L6 {p q b E esz:Nat} {E0:TypeId} {cs:List CV} {esz0:Nat} {el0:Nat→Nat→DV} {ob:Ob} (hob: ∀ρ F w S,ρ b=some .nil→iC ρ F w S b ob) (hp:get st.heap p=some (some (.cells E0 cs))) (hq:cs[q]? =some (.d (.sl (some false) esz0 0 el0))) (hb:get st.heap b=none):
  jQ B N L st ⟨st.slots,(p,some (.cells E0 (cs.set q (.own b false 0))))::(b,some ob)::st.heap⟩:=by
 intro a w hc
 obtain⟨⟨ρ,F,hfr,hhi,hs,dn⟩,hid,sz⟩:=hc
 have hρ:=hhi.fresh b hb
 have hn:=hhi.Ef hfr (b:=b) (nob:=ob) hb (hob _ _ _ _ (ax _ _))
 have g:Gr ρ F w (bK ρ b .nil) F w:=⟨aO hρ,fun _ h=>h,fun _ _=>rfl⟩
 have hhp:upd (aP st.heap) [(b,some ob)]=aP ((b,some ob)::st.heap):=by
  funext x;rw [kF];simp only [aP];rw [ay]
 rw [hhp]at hn
 have hpb:p≠b:=fun e=>by rw [e,hb]at hp;cases hp
 refine⟨⟨bK ρ b .nil,F,{hfr with rho:=fun b' p' e=>aO hρ b' p' (hfr.rho b' p' e)}, ?_,fun t' tv ht'=> ?_,dn⟩,hid,sz⟩
 ·obtain⟨ft,hn⟩:=hn
  have hp':aP ((b,some ob)::st.heap) p=some (some (.cells E0 cs)):=by simp only [aP];rw [ay,if_neg (Ne.symm hpb)];exact hp
  have hu: ∀x,aP ((p,some (.cells E0 (cs.set q (.own b false 0))))::(b,some ob)::st.heap) x=if p=x then some (some (.cells E0 (cs.set q (.own b false 0))))else aP ((b,some ob)::st.heap) x:=fun x=>by simp only [aP];rw [ay]
  have hex: ∀x ox,aP ((p,some (.cells E0 (cs.set q (.own b false 0))))::(b,some ob)::st.heap) x=some (some ox)→ ∃ox0,aP ((b,some ob)::st.heap) x=some (some ox0):=fun x ox hh=>by
   rw [hu]at hh;split at hh
   ·rename_i e;subst e;exact⟨_,hp'⟩
   ·exact⟨_,hh⟩
  refine⟨ft,fun x ox hh=> ?_,fun x ox k hh hf=> ?_,fun x y ox oy k h1 h2=> ?_,fun x hh=> ?_,hn.gl⟩
  ·rw [hu]at hh;split at hh
   ·rename_i e;subst e;cases hh
    obtain⟨k,cap,vs,x1,x0,x2,x3⟩:=hn.obj p _ hp'
    refine⟨k,cap,vs,x1,x0,x2,aU.jP (by rw [x3.length,List.length_set]) fun j c hj=> ?_⟩
    rw [List.getElem?_set]at hj
    split at hj
    ·rename_i e;subst e
     split at hj
     ·cases hj
      obtain⟨u,hu',hr⟩:=x3.get hq
      refine⟨u,hu', ?_⟩
      obtain⟨ad,cap',e1,_,h2,h3,_⟩:=hr
      have:=h2 rfl;subst this
      obtain⟨_,rfl⟩:=h3 rfl
      exact .inr ⟨rfl,ax _ _,rfl,e1⟩
     ·cases hj
    ·exact x3.get hj
   ·exact hn.obj x ox hh
  ·obtain⟨ox0,h0⟩:=hex x ox hh;exact hn.blk x ox0 k h0 hf
  ·obtain⟨o1,g1⟩:=hex x ox h1
   obtain⟨o2,g2⟩:=hex y oy h2
   exact hn.dis x y o1 o2 k g1 g2
  ·rw [hu]at hh;split at hh
   ·cases hh
   ·exact hn.fresh x hh
 ·obtain⟨v,hv,hr⟩:=hs t' tv ht'
  exact⟨v,hv,hr.gr g⟩
theorem jQ.ob {b:Nat} {x y:Ob} (hb:get st.heap b=some (some x)) (hxy: ∀ρ F w S,iC ρ F w S b x→iC ρ F w S b y):jQ B N L st ⟨st.slots,(b,some y)::st.heap⟩:=by
 intro a w hc
 obtain⟨⟨ρ,F,hfr,⟨ft,hi⟩,hs,dn⟩,hid,sz⟩:=hc
 have hu: ∀c,aP ((b,some y)::st.heap) c=if b=c then some (some y)else aP st.heap c:=fun c=>by simp only [aP];rw [ay]
 have hex: ∀c oc,aP ((b,some y)::st.heap) c=some (some oc)→ ∃oc0,aP st.heap c=some (some oc0):=fun c oc hh=>by
  rw [hu]at hh;split at hh
  ·rename_i e;subst e;exact⟨_,hb⟩
  ·exact⟨_,hh⟩
 refine⟨⟨ρ,F,hfr,⟨ft,fun c oc hh=> ?_,fun c oc k hh hf=> ?_,fun c d oc od k h1 h2=> ?_,fun c hh=> ?_,hi.gl⟩,hs,dn⟩,hid,sz⟩
 ·rw [hu]at hh;split at hh
  ·rename_i e;subst e;cases hh;exact hxy _ _ _ _ (hi.obj b x hb)
  ·exact hi.obj c oc hh
 ·obtain⟨o0,h0⟩:=hex c oc hh;exact hi.blk c o0 k h0 hf
 ·obtain⟨o1,g1⟩:=hex c oc h1
  obtain⟨o2,g2⟩:=hex d od h2
  exact hi.dis c d o1 o2 k g1 g2
 ·rw [hu]at hh;split at hh
  ·cases hh
  ·exact hi.fresh c hh
theorem jQ.LP {b E esz len:Nat} {el:Nat→Nat→DV} {el':Nat→Nat→EV} (hb:get st.heap b=some (some (.arr E esz len el))) (h: ∀i,i<len→ ∀j,j<esz→FQ (el i j) (el' i j)):jQ B N L st ⟨st.slots,(b,some (.rows E esz len el' none))::st.heap⟩:=by
 refine jQ.ob hb fun ρ F w S hr=> ?_
 rcases hr with hr|⟨k,base,cap,x1,x0,vs,x2,x3,x4,x5,x6⟩
 ·exact .inl hr
 ·refine .inr ⟨k,base,cap,vs,fun _ _=>none,x1,x0,x2,x3,x4,x5,fun i hi j hj=> ?_,(fun _ _ _ _ _ e=>by cases e),(fun _ _ e=>by cases e)⟩
  obtain⟨u,hu,hr⟩:=x6 i hi j hj
  exact⟨u,hu,(h i hi j hj).Jv hr⟩
theorem kX {a b:Nat} (h:a≠b):Nat.beq a b=false:=by
 cases hb:Nat.beq a b with
 |true=>exact absurd (Nat.eq_of_beq_eq_true hb) h
 |false=>rfl
theorem Ea {id:Nat} {c:Code} (h:jy rd P B N L c (fun e st'=>match e with| .exit id'=>bif Nat.beq id' id then Q .normal st' else Q (.exit id') st'|e=>Q e st') st):jy rd P B N L (.block id c) Q st:=by
 refine Gv (eU h fun e st' hh=> ?_)
 cases e with
 |exit id'=>
  simp only at hh ⊢
  split
  ·rename_i e;subst e;simpa using hh
  ·rename_i e;rw [show Nat.beq id' id=false from kX e]at hh;exact hh
 |normal=>exact hh
 |goto l=>exact hh
 |ret=>exact hh
 |panic c=>exact hh
 |outgrown=>exact hh
end
theorem Au {E:TypeId} {cs ds:List CV} (h:CR cs ds):Fu (some (.cells E cs)) (some (.cells E ds)):=by
 rintro ρ F w S b ⟨k,cap,vs,h1,h0,h2,h3⟩
 exact⟨k,cap,vs,h1,h0,h2,h.Jv h3⟩
def sN:Code→Exit
 | .exit id=> .exit id
 | .goto l=> .goto l
 |_=> .ret
def uH:Code→Bool
 | .ret| .exit _| .goto _=>true
 |_=>false
def FI (outs:List Code) (st:Nat) (e:Exit):Prop:=(st=0∧e= .normal)∨ ∃k c,st=k+2∧outs[k]? =some c∧uH c=true∧e=sN c
theorem FI.zero {outs:List Code} {st:Nat} (h:st=0):FI outs st .normal:= .inl ⟨h,rfl⟩
theorem FI.out {outs:List Code} {st k:Nat} {c:Code} (h:st=k+2) (hc:outs[k]? =some c) (ho:uH c=true):FI outs st (sN c):= .inr ⟨k,c,h,hc,ho,rfl⟩
theorem ND {w:World} {k:Nat} (o:Obj):Put w (w.putObj k o) k:=⟨by simp,fun j hj=>World.putObj_heap_other hj,rfl,rfl,rfl⟩
section
variable {P:Program} {B:Base} {N:Nat} {L:List Nat} {T:List (Nat × TI)} {Q:Exit→St→Prop} {st:St}
def Kl:TV→Option (FuncId × List CV × List CV)
 | .v (.one (.d (.fn f n cap)))=>some (f,[],takeC cap 0 n)
 | .v (.one (.fn f nf n cap))=>bif Nat.ble nf n then some (f,dh cap 0 nf,dh cap nf (n - nf))else none
 |_=>none
theorem IA {ρ:Nat→Option Pl} {F:Nat→Prop} {w:World} {tv:TV} {f:FuncId} {c1 c2:List CV} {v:Value} (h:Kl tv=some (f,c1,c2)) (hr:aW ρ F w tv v): ∃v1 v2:List Value,v= .func (.func f) v1.toArray v2.toArray∧aU ρ F w c1 v1∧aU ρ F w c2 v2:=by
 unfold Kl at h
 split at h
 ·rename_i g n cap
  cases h
  obtain⟨vs,hv,hn,hcap⟩:=hr
  refine⟨[],vs,hv,trivial,aU.jP (by rw [iI,hn]) fun j c hj=> ?_⟩
  obtain⟨hlt,rfl⟩:=lG cap 0 n j c hj
  have hg:=List.getElem?_eq_getElem (l:=vs) (i:=j) (by omega)
  exact⟨_,hg,by rw [Nat.zero_add];exact hcap j _ hg⟩
 ·rename_i g nf n cap
  cases hb:Nat.ble nf n with
  |false=>simp [hb]at h
  |true=>
   simp only [hb,cond_true]at h
   cases h
   have hle:=Nat.le_of_ble_eq_true hb
   obtain⟨vs,hv,hn,hcap⟩:=hr
   refine⟨vs.take nf,vs.drop nf,hv,aU.jP (by rw [jL];simp;omega) fun j c hj=> ?_,aU.jP (by rw [jL];simp;omega) fun j c hj=> ?_⟩
   ·obtain⟨hlt,rfl⟩:=nC cap 0 nf j c hj
    have hg:=List.getElem?_eq_getElem (l:=vs) (i:=j) (by omega)
    exact⟨_,by rw [List.getElem?_take,if_pos hlt];exact hg,by rw [Nat.zero_add];exact hcap j _ hg⟩
   ·obtain⟨hlt,rfl⟩:=nC cap nf (n - nf) j c hj
    have hg:=List.getElem?_eq_getElem (l:=vs) (i:=nf+j) (by omega)
    exact⟨_,by rw [List.getElem?_drop];exact hg,hcap (nf+j) _ hg⟩
 ·cases h
theorem xK: ∀(cs:List CV),iy (cs.map fun c=> .v (.one c))=some (cs.map .one)
 |[]=>rfl
 |c::cs=>by simp [iy,xK cs]
theorem zM {g:Operand} {gv:TV} {ps:List Nat} {assign body:Code} (lb:Nat) (sl:List (Nat × TV)) (outs:List Code) (ids:List Nat) {f:FuncId} {c1 c2:List CV} {hin:List (Nat × Option Ob)} (res:TV) (hout:List (Nat × Option Ob)) {stt:Nat} {r':fE} {sl':List (Nat × TV)} {e:Exit}
  (hg:uV st g=some gv) (hf:Kl gv=some (f,c1,c2)) (hlb:get st.heap lb=none) (hsl: ∀p∈sl,get st.slots p.1=some p.2)
  (hin1:bI ids (ids.map (aP ((lb,some (.loop ⟨ps,assign,body,N,outs⟩ 0 sl))::st.heap)))=some hin)
  (hok:(cO ((c1++CV.yl lb::c2).flatMap CV.aV) ids && cO (eY (ids.map (aP ((lb,some (.loop ⟨ps,assign,body,N,outs⟩ 0 sl))::st.heap)))) ids && fU ids (hout.map (·.1)) ((hout.map (·.1)).map (aP ((lb,some (.loop ⟨ps,assign,body,N,outs⟩ 0 sl))::st.heap))))=true)
  (hfn:Fn P f ((c1++CV.yl lb::c2).map .one) hin res hout) (hlo:get hout lb=some (some (.loop r' stt sl'))) (hr':r'.outs=outs) (hx:FI outs stt e)
  (hQ:Q e ⟨st.slots,(lb,none)::(hout++(ids.map (fun i=>(i,none))++st.heap))⟩):jy none P B N L (.rangeFunc g ps.toArray assign body) Q st:=by
 intro a w hc
 obtain⟨⟨ρ,F,hfr,hi,hs,dn⟩,hid,sz⟩:=hc
 refine wpIn_rangeFunc ?_
 intro fn _
 obtain⟨v1,v2,hv,hr1,hr2⟩:=IA hf (Dj hs hg)
 let W0:=w.alloc (.deferred (some []))
 let W1:=W0.alloc (.loop {state:= .ready,pending:=none,fn,tmps:=a.tmps,params:=ps.toArray,assign,body,defers:=w.heap.size})
 have hent:(Instr.enterLoop fn a.tmps ps.toArray assign body (FW none).round).run P w= .ok (w.heap.size+1,[{target:= .collected w.heap.size,args:= #[] }]) W1:=run_enterLoop_outer _ _ _ _ _
 have p0:=Push.alloc w (.deferred (some []))
 have p1:=Push.alloc W0 (.loop {state:= .ready,pending:=none,fn,tmps:=a.tmps,params:=ps.toArray,assign,body,defers:=w.heap.size})
 let F0:Nat→Prop:=fun k=>F k∨k=w.heap.size
 have hW0:W0.heap.size=w.heap.size+1:=p0.sz
 have g0:Gr ρ F w ρ F0 W0:=⟨fun _ _ h=>h,fun _ h=> .inl h,fun k hk=>p0.old (hfr.fz k hk).1⟩
 have hfr0:Fr B ρ F0 W0:=by
  refine⟨hfr.os,hfr.tape,hfr.output,by have:=hfr.size;omega,fun k hk hn=>(p0.old (by have:=hfr.size;omega)).trans (hfr.mem k hk hn),hfr.rho,fun k hk=> ?_,fun k hk=> .inl (hfr.bf k hk)⟩
  rcases hk with hk|hk
  ·obtain⟨x,y⟩:=hfr.fz k hk;exact⟨by omega,y⟩
  ·subst hk;exact⟨by omega, .inr (.inr hfr.size)⟩
 have hi0:HI B ρ F0 W0 (aP st.heap):=by
  obtain⟨ft,hi⟩:=hi
  refine⟨ft,hi.step g0 hfr (by omega) (fun _=>False) (fun b ob _ hb=> ⟨hb,fun k hk=>p0.old (hi.blk b ob k hb hk).1,fun _=>Iff.rfl⟩) (fun _ _ h=>h.elim) (fun _ _ _ h=>h.elim) (fun _ _ _ _ _ h=>h.elim) (fun k hk=> ?_) hi.fresh⟩
  rcases hk with hk|hk
  ·exact .inl hk
  ·subst hk;exact .inr (.inr ⟨Nat.le_refl _,fun _ _ h=>h.elim⟩)
 have hρ:=hi0.fresh lb hlb
 have g1:Gr ρ F0 W0 (bK ρ lb (.blk W0.heap.size 0 0)) F0 W1:=p1.gr hfr0 hρ
 have hi1:=p1.hi hfr0 hi0 (b:=lb) (base:=0) (cap:=0) (nob:= .loop ⟨ps,assign,body,N,outs⟩ 0 sl) hlb (by
  refine⟨W0.heap.size,0,0,fn,a.tmps,w.heap.size,ax _ _,rfl,by simp, ?_,sz,fun t tv ht=> ?_⟩
  ·rw [p1.new];rfl
  ·obtain⟨v,hv,hr⟩:=hs t tv (hsl _ (get_mem ht))
   exact⟨v,hv,(hr.gr g0).gr g1⟩)
 have hfr1:=p1.fr hfr0 (pl:= .blk W0.heap.size 0 0) hρ
 have hheap:upd (aP st.heap) [(lb,some (.loop ⟨ps,assign,body,N,outs⟩ 0 sl))]=aP ((lb,some (.loop ⟨ps,assign,body,N,outs⟩ 0 sl))::st.heap):=by
  funext x;rw [kF];simp only [aP];rw [ay]
 rw [hheap]at hi1
 have hL:W1.heap[w.heap.size+1]? =some (.loop {state:= .ready,pending:=none,fn,tmps:=a.tmps,params:=ps.toArray,assign,body,defers:=w.heap.size}):=by
  have:=p1.new;rw [hW0]at this;exact this
 have gg:=g0.trans g1
 refine⟨w.heap.size+1,[{target:= .collected w.heap.size,args:= #[] }],W1,{target:= .fn (.func f) v2.toArray,args:=v1.toArray++ #[.func (.yield (w.heap.size+1)) #[] #[]] },W1,f,(v1.toArray++ #[.func (.yield (w.heap.size+1)) #[] #[]])++v2.toArray,W1,hent, ?_,fun _ _=>trivial, ?_,fun hh=>by simp [FW,Fence.wide]at hh, ?_⟩
 ·simp [resolve,hv,Deferred.ofValue];rfl
 ·obtain⟨⟨fn',e1,e2,e3⟩,_⟩:=hfn
  simp only [invoke,callFunc,Sem.run_bind,run_program,Result.andThen_ok,e1,e2,e3,Bool.false_eq_true,if_false]
  rfl
 ·-- the call
  have hargs:iy ((c1++CV.yl lb::c2).map fun c=>TV.v (.one c))=some ((c1++CV.yl lb::c2).map .one):=xK _
  have hyl:dN (bK ρ lb (.blk W0.heap.size 0 0)) F0 W1 (.yl lb) (.func (.yield (w.heap.size+1)) #[] #[]):=⟨W0.heap.size,0,0,ax _ _,by rw [hW0]⟩
  have hxs:dV (bK ρ lb (.blk W0.heap.size 0 0)) F0 W1 ((c1++CV.yl lb::c2).map fun c=>TV.v (.one c)) (v1++ .func (.yield (w.heap.size+1)) #[] #[]::v2):=
   uW (((hr1.gr gg)).append ⟨hyl,hr2.gr gg⟩)
  have hmentE:((c1++CV.yl lb::c2).map SV.one).flatMap SV.aV=(c1++CV.yl lb::c2).flatMap CV.aV:=by
   rw [List.flatMap_map];rfl
  have hdropE:((ids++hout.map (·.1)).map (aP ((lb,some (.loop ⟨ps,assign,body,N,outs⟩ 0 sl))::st.heap))).drop ids.length=(hout.map (·.1)).map (aP ((lb,some (.loop ⟨ps,assign,body,N,outs⟩ 0 sl))::st.heap)):=by
   rw [List.map_append]
   conv=>lhs;arg 1;rw [←List.length_map (f:=aP ((lb,some (.loop ⟨ps,assign,body,N,outs⟩ 0 sl))::st.heap)) (as:=ids)]
   rw [List.drop_left]
  have htakeE:((ids++hout.map (·.1)).map (aP ((lb,some (.loop ⟨ps,assign,body,N,outs⟩ 0 sl))::st.heap))).take ids.length=ids.map (aP ((lb,some (.loop ⟨ps,assign,body,N,outs⟩ 0 sl))::st.heap)):=by
   rw [List.map_append]
   conv=>lhs;arg 1;rw [←List.length_map (f:=aP ((lb,some (.loop ⟨ps,assign,body,N,outs⟩ 0 sl))::st.heap)) (as:=ids)]
   rw [List.take_left]
  have hzip:bI ids ((ids++hout.map (·.1)).map (aP ((lb,some (.loop ⟨ps,assign,body,N,outs⟩ 0 sl))::st.heap)))=some hin:=by
   rw [List.map_append]
   have: ∀(is:List Nat) (os os':List (Option (Option Ob))) (m:List (Nat × Option Ob)),bI is os=some m→bI is (os++os')=some m:=by
    intro is
    induction is with
    |nil=>intro os os' m h;simpa [bI]using h
    |cons i is ih=>
     intro os os' m h
     match os,h with
     |some (some o)::os,h=>
      simp only [bI]at h
      split at h
      ·rename_i l hl
       simp only [List.cons_append,bI,ih os os' l hl];exact h
      ·cases h
     |[],h=>simp [bI]at h
     |none::_,h=>simp [bI]at h
     |some none::_,h=>simp [bI]at h
   exact this _ _ _ _ hin1
  have hall:=fun K=>Dz (res:=res) (B:=B) (X:=fun K=>CallsIn (FW none) (0 - 1) P f ((v1.toArray++ #[.func (.yield (w.heap.size+1)) #[] #[]])++v2.toArray) W1 fun e w'=> ∃v,e= .returned v∧K v w') hzip hargs
   (by rw [hmentE,htakeE,hdropE];exact hok) rfl hfr1 hi1 hxs (fun B' hw _ hF hi' hxs' K hK=>by
    have hcall:=(callsIn_wide (n:=0 - 1)).2 (hfn.2 B' (v1++ .func (.yield (w.heap.size+1)) #[] #[]::v2) hF hi' hxs')
    have harr:(v1++ .func (.yield (w.heap.size+1)) #[] #[]::v2).toArray=(v1.toArray++ #[.func (.yield (w.heap.size+1)) #[] #[]])++v2.toArray:=Array.ext' (by simp)
    rw [harr,hw]at hcall
    have hcall':CallsIn (FW none) (0 - 1) P f ((v1.toArray++ #[.func (.yield (w.heap.size+1)) #[] #[]])++v2.toArray) W1 _:=hcall
    refine hcall'.mono ?_
    rintro e w' ⟨v,ρ',F',rfl,h1,h2,h3⟩
    exact⟨v,rfl,hK v w' ⟨ρ',F',h1,h2,h3⟩⟩) K
  refine CallsIn.mono (hall (fun v w'=>rangePost (FW none) 0 P (w.heap.size+1) (fun e a' w'=> ∃st',Q e st'∧Conc B N L st' a' w') {a with defers:=[{target:= .collected w.heap.size,args:= #[] }]++a.defers} (.returned v) w')
   (fun v ρ2 F2 w2 g2 f2 hi2 hr=> ?_)) ?_
  ·-- behind the call
   obtain⟨ft2,hi2⟩:=hi2
   have hl2:upd (aP ((lb,some (.loop ⟨ps,assign,body,N,outs⟩ 0 sl))::st.heap)) (hout++ids.map fun i=>(i,none)) lb=some (some (.loop r' stt sl')):=by
    rw [xw,get_append,hlo]
   obtain⟨k,base,cap,fn2,tmps2,D2,y1,y0,y2,y3,y4,y5⟩:=hi2.obj lb _ hl2
   have hk:k=w.heap.size+1:=by
    have:=g2.rho lb _ (ax lb (.blk W0.heap.size 0 0))
    rw [y1]at this;cases this;exact hW0
   subst hk
   have hend:=run_endLoop (P:=P) y3 (by
    rcases hx with⟨h0,_⟩|⟨q,c,h0,_⟩
    ·subst h0;simp [iL]
    ·subst h0;simp [iL])
   have pt:=ND (w:=w2) (k:=w.heap.size+1) (.loop {state:= .exhausted,pending:=dK r'.outs stt,fn:=fn2,tmps:=tmps2,params:=r'.ps.toArray,assign:=r'.assign,body:=r'.body,defers:=D2})
   have hblk:=hi2.blk lb _ _ hl2 y0
   have g3:=pt.gr (ρ:=ρ2) hblk.2.1
   have hfr3:=pt.fr f2 hblk.2.2
   have hi3:mq B ρ2 F2 (w2.putObj (w.heap.size+1) (.loop {state:= .exhausted,pending:=dK r'.outs stt,fn:=fn2,tmps:=tmps2,params:=r'.ps.toArray,assign:=r'.assign,body:=r'.body,defers:=D2}))
     (aP ((lb,none)::(hout++(ids.map (fun i=>(i,none))++st.heap)))) ft2:=by
    have hu: ∀x,aP ((lb,none)::(hout++(ids.map (fun i=>(i,none))++st.heap))) x=if lb=x then some none else upd (aP ((lb,some (.loop ⟨ps,assign,body,N,outs⟩ 0 sl))::st.heap)) (hout++ids.map fun i=>(i,none)) x:=fun x=>by
     simp only [aP];rw [ay]
     by_cases e:lb=x
     ·rw [if_pos e,if_pos e]
     ·rw [if_neg e,if_neg e,←List.append_assoc,get_append,xw]
      cases get (hout++ids.map fun i=>(i,none)) x with
      |some _=>rfl
      |none=>simp only;rw [ay,if_neg e]
    refine hi2.step g3 f2 (by rw [pt.size];omega) (fun x=>x=lb) (fun x ox e hh=> ?_) (fun x ox e hh=> ?_) (fun x ox q e hh _=> ?_) (fun x y ox oy q e1 e2 _ _ _ _=>e1.trans e2.symm) (fun q hq=> .inl hq) fun x hh=> ?_
    ·rw [hu,if_neg (Ne.symm e)]at hh
     exact⟨hh,fun q hq=>pt.old q fun e'=>e (hi2.dis x lb ox _ q hh hl2 hq (e' ▸ y0)),fun _=>Iff.rfl⟩
    ·subst e;rw [hu,if_pos rfl]at hh;cases hh
    ·subst e;rw [hu,if_pos rfl]at hh;cases hh
    ·rw [hu]at hh
     split at hh
     ·cases hh
     ·exact hi2.fresh x hh
   have gall:=(gg.trans g2).trans g3
   have hconc:Conc B N L ⟨st.slots,(lb,none)::(hout++(ids.map (fun i=>(i,none))++st.heap))⟩ {a with defers:=[{target:= .collected w.heap.size,args:= #[] }]++a.defers}
     (w2.putObj (w.heap.size+1) (.loop {state:= .exhausted,pending:=dK r'.outs stt,fn:=fn2,tmps:=tmps2,params:=r'.ps.toArray,assign:=r'.assign,body:=r'.body,defers:=D2})):=by
    refine⟨⟨ρ2,F2,hfr3,⟨ft2,hi3⟩,fun t tv ht=> ?_, ?_⟩,hid,sz⟩
    ·obtain⟨v,hv,hr⟩:=hs t tv ht
     exact⟨v,hv,hr.gr gall⟩
    ·obtain⟨d0,Ds,d1,d2,d3⟩:=dn
     have hg12:=g1.trans (g2.trans g3)
     refine⟨d0,w.heap.size::Ds,by simp [d1],List.nodup_cons.2 ⟨fun hm=> ?_,d2⟩,fun D hD=> ?_⟩
     ·have:=(hfr.fz _ (d3 _ hm).1).1;omega
     ·rcases List.mem_cons.1 hD with rfl|hD
      ·exact⟨hg12.fz _ (.inr rfl),Nat.le_trans d0 hfr.size,by rw [hg12.mem _ (.inr rfl)];exact p0.new⟩
      ·obtain⟨z1,z2,z3⟩:=d3 D hD
       exact⟨gall.fz D z1,z2,by rw [gall.mem D z1];exact z3⟩
   refine⟨dK r'.outs stt,_,hend, ?_⟩
   rcases hx with⟨h0,rfl⟩|⟨q,c,h0,hcq,hout',rfl⟩
   ·subst h0
    exact⟨_,hQ,hconc⟩
   ·subst h0
    have hp:dK r'.outs (q+2)=some c:=by simp [dK,hr',hcq]
    rw [hp]
    cases c with
    |ret=>exact wpIn_ret ⟨_,hQ,by rw [hp]at hconc;exact hconc⟩
    |exit id=>exact wpIn_exit ⟨_,hQ,by rw [hp]at hconc;exact hconc⟩
    |goto l=>exact wpIn_goto ⟨_,hQ,by rw [hp]at hconc;exact hconc⟩
    |_=>simp [uH]at hout'
  ·rintro e w' ⟨v,rfl,hh⟩
   exact hh
def K7 (s:Nat):Option Ob→Option Ob
 |some (.loop r _ sl)=>some (.loop r s sl)
 |y=>y
def sP (lb s:Nat):List (Nat × Option Ob)→List (Nat × Option Ob)
 |[]=>[]
 |(b,x)::l=>(b,bif Nat.beq b lb then K7 s x else x)::sP lb s l
theorem Dk (lb s:Nat): ∀(l:List (Nat × Option Ob)) (b:Nat),get (sP lb s l) b=bif Nat.beq b lb then(get l b).map (K7 s)else get l b
 |[],b=>by simp [sP,get]
 |(k,x)::l,b=>by
  simp only [sP]
  rw [ay,ay]
  by_cases e:k=b
  ·subst e
   rw [if_pos rfl,if_pos rfl]
   cases Nat.beq k lb<;>rfl
  ·rw [if_neg e,if_neg e];exact Dk lb s l b
theorem Ao {a:Act} {w:World} {lb:Nat} {r:fE} {st0:Nat} {sl:List (Nat × TV)} (hc:Conc B N L st a w) (hlb:get st.heap lb=some (some (.loop r st0 sl))) {l base cap:Nat} (hl: ∀p,B.ρ lb=some p→p= .blk l base cap) (hl2:B.ρ lb≠none):
  ∃lp:Loop,w.heap[l]? =some (.loop lp)∧lp.state=iL st0∧lp.pending=dK r.outs st0∧ ∀s,s<r.outs.length+2→Conc B N L ⟨st.slots,sP lb s st.heap⟩ a (w.putObj l (.loop {lp with state:=iL s,pending:=dK r.outs s})):=by
 obtain⟨⟨ρ,F,hfr,⟨ft,hi⟩,hs,dn⟩,hid,sz⟩:=hc
 obtain⟨k,base',cap',fn,tmps,D,y1,y0,y2,y3,y4,y5⟩:=hi.obj lb _ hlb
 have hk:k=l:=by
  cases hB:B.ρ lb with
  |none=>exact absurd hB hl2
  |some p=>
   have:=hfr.rho lb p hB
   rw [hl p hB,y1]at this;cases this;rfl
 subst hk
 refine⟨_,y3,rfl,rfl,fun s hsl=> ?_⟩
 show Conc B N L ⟨st.slots,sP lb s st.heap⟩ a (w.putObj k (.loop {state:=iL s,pending:=dK r.outs s,fn,tmps,params:=r.ps.toArray,assign:=r.assign,body:=r.body,defers:=D}))
 have pt:=ND (w:=w) (k:=k) (.loop {state:=iL s,pending:=dK r.outs s,fn,tmps,params:=r.ps.toArray,assign:=r.assign,body:=r.body,defers:=D})
 have hblk:=hi.blk lb _ k hlb y0
 have g:=pt.gr (ρ:=ρ) hblk.2.1
 have hhi:=pt.hi hfr hi hlb y0 (S:=ft lb) (nob:= .loop r s sl) (fun _ h=>h) ⟨k,base',cap',fn,tmps,D,y1,y0,hsl,World.putObj_heap_same hblk.1,y4,fun t tv ht=>by
  obtain⟨v,e1,e2⟩:=y5 t tv ht
  exact⟨v,e1,e2.gr g⟩⟩
 have hu:upd (aP st.heap) [(lb,some (.loop r s sl))]=aP (sP lb s st.heap):=by
  funext b
  rw [kF]
  show _=get (sP lb s st.heap) b
  rw [Dk]
  by_cases e:lb=b
  ·subst e
   rw [if_pos rfl,hlb,show Nat.beq lb lb=true from Nat.beq_refl lb];rfl
  ·rw [if_neg e,show Nat.beq b lb=false from kX (Ne.symm e)];rfl
 rw [hu]at hhi
 refine⟨⟨ρ,F,pt.fr hfr hblk.2.2,⟨_,hhi⟩,fun t tv ht=> ?_,dn.gr g⟩,hid,sz⟩
 obtain⟨v,hv,hr⟩:=hs t tv ht
 exact⟨v,hv,hr.gr g⟩
theorem Fw: ∀{ps:List Nat} {vs:List Value} {tmps:Array Value},ps.length=vs.length→oo ps=true→(∀t∈ps,t<tmps.size)→
  ((ps.zip vs).foldl (fun(tm:Array Value) (p:Nat × Value)=>tm.setIfInBounds p.1 p.2) tmps).size=tmps.size∧
  (∀t,t ∉ ps→((ps.zip vs).foldl (fun(tm:Array Value) (p:Nat × Value)=>tm.setIfInBounds p.1 p.2) tmps)[t]? =tmps[t]?)∧
  ∀(j t:Nat) (v:Value),ps[j]? =some t→vs[j]? =some v→((ps.zip vs).foldl (fun(tm:Array Value) (p:Nat × Value)=>tm.setIfInBounds p.1 p.2) tmps)[t]? =some v
 |[],[],tmps,_,_,_=> ⟨rfl,fun _ _=>rfl,fun _ _ _ h=>by simp at h⟩
 |p::ps,v::vs,tmps,hl,hn,hlt=>by
  simp only [oo,Bool.and_eq_true,Bool.not_eq_true']at hn
  have hnm:=j6 hn.1
  obtain⟨i1,i2,i3⟩:=Fw (ps:=ps) (vs:=vs) (tmps:=tmps.setIfInBounds p v) (by simpa using hl) hn.2 (fun t ht=>by rw [Array.size_setIfInBounds];exact hlt t (by simp [ht]))
  rw [List.zip_cons_cons,List.foldl_cons]
  refine⟨by rw [i1];simp,fun t ht=> ?_,fun j t u hj hu=> ?_⟩
  ·rw [i2 t (fun h=>ht (by simp [h])),Array.getElem?_setIfInBounds_ne (fun e=>ht (by simp [e]))]
  ·cases j with
   |zero=>
    simp at hj hu;subst hj;subst hu
    rw [i2 p hnm]
    have:=hlt p (by simp)
    simp [this]
   |succ j=>simp at hj hu;exact i3 j t u hj hu
 |[],_::_,_,hl,_,_=>by simp at hl
 |_::_,[],_,hl,_,_=>by simp at hl
def oU:List Nat→List SV→List (Nat × TV)
 |t::ts,s::ss=>(t, .v s)::oU ts ss
 |_,_=>[]
theorem AU {ρ:Nat→Option Pl} {F:Nat→Prop} {w:World}: ∀{ps:List Nat} {args:List SV} {vs:List Value},bY ρ F w args vs→ ∀t tv,get (oU ps args) t=some tv→ ∃(j:Nat) (v:Value),ps[j]? =some t∧vs[j]? =some v∧aW ρ F w tv v
 |[],_,_,_,t,tv,h=>by simp [oU,get]at h
 |_::_,[],_,_,t,tv,h=>by simp [oU,get]at h
 |p::ps,s::ss,v::vs,⟨h1,h2⟩,t,tv,h=>by
  simp only [oU]at h
  rw [ay]at h
  split at h
  ·rename_i e;subst e;cases h;exact⟨0,v,rfl,rfl,h1⟩
  ·obtain⟨j,u,e1,e2,e3⟩:=AU h2 t tv h
   exact⟨j+1,u,by simpa using e1,by simpa using e2,e3⟩
 |_::_,_::_,[],h,_,_,_=>h.elim
theorem yo: ∀{ps:List Nat} {args:List SV} {t:Nat},ps.length=args.length→get (oU ps args) t=none→t ∉ ps
 |[],_,_,_,_=>by simp
 |p::ps,[],_,hl,_=>by simp at hl
 |p::ps,s::ss,t,hl,h=>by
  simp only [oU]at h
  rw [ay]at h
  split at h
  ·cases h
  ·rename_i e
   rw [List.mem_cons]
   rintro (e'|hm)
   ·exact e e'.symm
   ·exact yo (by simpa using hl) h hm
def r9 (lb:Nat) (r:fE) (res:TV) (hout:List (Nat × Option Ob)) (e:Exit) (st:St):Prop:=
 ∃(s:Nat) (b:Bool) (sl:List (Nat × TV)),((e= .normal∧s=0∧b=true)∨ ∃k c,r.outs[k]? =some c∧uH c=true∧e=sN c∧s=k+2∧b=false)∧
  get st.heap lb=some (some (.loop r 1 sl))∧oz (sP lb s st.heap) hout∧vo (.v (.one (.d (.bool b)))) res
theorem r9.on {lb:Nat} {r:fE} {res:TV} {hout:List (Nat × Option Ob)} {sl:List (Nat × TV)} (h1:get st.heap lb=some (some (.loop r 1 sl))) (h2:oz (sP lb 0 st.heap) hout) (h3:vo (.v (.one (.d (.bool true)))) res):r9 lb r res hout .normal st:=
 ⟨0,true,sl, .inl ⟨rfl,rfl,rfl⟩,h1,h2,h3⟩
theorem r9.off {lb k:Nat} {c:Code} {e:Exit} {r:fE} {res:TV} {hout:List (Nat × Option Ob)} {sl:List (Nat × TV)} (hc:r.outs[k]? =some c) (ho:uH c=true) (he:e=sN c) (h1:get st.heap lb=some (some (.loop r 1 sl))) (h2:oz (sP lb (k+2) st.heap) hout) (h3:vo (.v (.one (.d (.bool false)))) res):r9 lb r res hout e st:=
 ⟨k+2,false,sl, .inr ⟨k,c,hc,ho,he,rfl,rfl⟩,h1,h2,h3⟩
theorem Jl {lb:Nat} {r:fE} {sl sl1:List (Nat × TV)} {args:List SV} {hin h1 hout:List (Nat × Option Ob)} {res:TV} {sl2:List (Nat × TV)} (hlb:get hin lb=some (some (.loop r 0 sl))) (hps:r.ps.length=args.length) (hnd:oo r.ps=true) (hlt:r.ps.all (fun t=>Nat.blt t r.N)=true)
  (hA: ∀rd B,jy rd P B r.N (hin.map (·.1)) r.assign (fun e st'=>e= .normal∧st'=⟨sl1,h1⟩) ⟨oU r.ps args++sl,hin⟩) (hlb1:get h1 lb=some (some (.loop r 0 sl2)))
  (hB: ∀rd B,jy rd P B r.N (hin.map (·.1)) r.body (r9 lb r res hout) ⟨sl1,sP lb 1 h1⟩):Yl P lb args hin res hout:=by
 intro B0 vs l base cap hF hi hr hρ
 obtain⟨B,hBe⟩: ∃B,B=B0.up:=⟨_,rfl⟩
 have hF: ∀k,B.F k→k<B.w.heap.size:=by rw [hBe];exact hF
 have hi:HI B B.ρ B.F B.w (aP hin):=by rw [hBe];exact hi.up
 have hr:bY B.ρ B.F B.w args vs:=by rw [hBe];exact hr
 have hρ:B.ρ lb=some (.blk l base cap):=by rw [hBe];exact hρ
 have hmk:B.mb≤B.w.heap.size:=by rw [hBe];exact Nat.le_refl _
 have down: ∀{v w},Post B res hout v w→Post B0 res hout v w:=by
  rw [hBe]
  rintro v w ⟨ρ,F,a,b,c⟩
  exact⟨ρ,F,a.dn,b.dn,c⟩
 rw [show B0.w=B.w by rw [hBe];rfl]
 have hi0:=hi
 obtain⟨ft,hi⟩:=hi
 obtain⟨k,base',cap',fn,tmps,D,y1,y0,y2,y3,y4,y5⟩:=hi.obj lb _ hlb
 rw [hρ]at y1;cases y1
 have hvl:=hr.length
 have hy:=run_yield (P:=P) (args:=vs.toArray) y3 (by simp;omega)
 refine⟨fn,_,r.assign,r.body,hy, ?_⟩
 have hfold:(r.ps.toArray.zip vs.toArray).foldl (fun tmps (t,a)=>tmps.setIfInBounds t a) tmps=(r.ps.zip vs).foldl (fun(tm:Array Value) (p:Nat × Value)=>tm.setIfInBounds p.1 p.2) tmps:=by
  rw [←Array.foldl_toList];simp
 obtain⟨z1,z2,z3⟩:=Fw (ps:=r.ps) (vs:=vs) (tmps:=tmps) (by omega) hnd (fun t ht=>by
  have:=List.all_eq_true.1 hlt t ht
  rw [y4];exact Nat.le_of_ble_eq_true (n:=t+1) this)
 have hconc:Conc B r.N (hin.map (·.1)) ⟨oU r.ps args++sl,hin⟩ {tmps:=(r.ps.toArray.zip vs.toArray).foldl (fun tmps (t,a)=>tmps.setIfInBounds t a) tmps,defers:=[] } B.w:=by
  rw [hfold]
  refine⟨⟨B.ρ,B.F,⟨rfl,rfl, .refl _,Nat.le_refl _,fun _ _ _=>rfl,fun _ _ h=>h,fun k hk=> ⟨hF k hk, .inl hk⟩,fun _ h=>h⟩,hi0,fun t tv ht=> ?_,Marks.none hmk⟩,fun b p hbp=> ?_,by rw [z1,y4]⟩
  ·have ht:get (oU r.ps args++sl) t=some tv:=ht
   rw [get_append]at ht
   split at ht
   ·rename_i tv' hg
    cases ht
    obtain⟨j,v,e1,e2,e3⟩:=AU hr t tv hg
    exact⟨v,z3 j t v e1 e2,e3⟩
   ·rename_i hg
    obtain⟨v,e1,e2⟩:=y5 t tv ht
    exact⟨v,by rw [z2 t (yo hps hg)];exact e1,e2⟩
  ·apply Classical.byContradiction
   intro hnm
   have:=hi.fresh b (bR hnm)
   rw [this]at hbp;cases hbp
 have hl1: ∀p,B.ρ lb=some p→p= .blk l base cap:=fun p hp=>by rw [hρ]at hp;cases hp;rfl
 have hl2:B.ρ lb≠none:=by rw [hρ];simp
 refine roundIn_of_wpIn (F:=FW none) trivial (wpIn_mono (hA (some l) B _ _ hconc) ?_)
 rintro e a1 w1 ⟨st',⟨rfl,rfl⟩,hc1⟩
 obtain⟨lp,q1,q2,q3,q4⟩:=Ao hc1 hlb1 hl1 hl2
 refine⟨_,run_beginRound q1 (by rw [q2];rfl), ?_⟩
 have hc2:=q4 1 (by omega)
 have hlp:({lp with state:=iL 1,pending:=dK r.outs 1}:Loop)={lp with state:= .busy}:=by
  have:lp.pending=none:=q3
  cases lp;simp at this;subst this;rfl
 rw [hlp]at hc2
 refine wpIn_mono (hB (some l) B _ _ hc2) ?_
 rintro e a2 w2 ⟨st2,⟨s,b,sl3,hcase,hg,hle,hres⟩,hc3⟩
 obtain⟨lp2,u1,u2,u3,u4⟩:=Ao hc3 hg hl1 hl2
 have fin: ∀jump:Option Code,s<r.outs.length+2→(if jump.isNone then LoopState.ready else .done)=iL s→jump=dK r.outs s→jump.isNone=b→
   ∃v w',(Instr.endRound l jump).run P w2= .ok v w'∧ ∃v',Ending.returned v=Ending.returned v'∧Post B0 res hout v' w':=by
  intro jump hs h1 h2 h3
  refine⟨_,_,run_endRound jump u1,_,rfl, ?_⟩
  have hc4:=u4 s hs
  rw [h1,h2,show(dK r.outs s).isNone=b by rw [←h2];exact h3]
  obtain⟨⟨ρ',F',f1,f2,_,_⟩,_,_⟩:=hc4
  exact down ⟨ρ',F',f1,f2.le hle,hres _ _ _ _ rfl⟩
 rcases hcase with⟨rfl,rfl,rfl⟩|⟨k,c,hk,ho,rfl,rfl,rfl⟩
 ·exact fin none (by omega) rfl rfl rfl
 ·have hkl:k<r.outs.length:=(List.getElem?_eq_some_iff.1 hk).1
  have hp:some c=dK r.outs (k+2):=by simp [dK,hk]
  cases c with
  |ret=>exact fin (some .ret) (by omega) rfl hp rfl
  |exit id=>exact fin (some (.exit id)) (by omega) rfl hp rfl
  |goto t=>exact fin (some (.goto t)) (by omega) rfl hp rfl
  |_=>simp [uH]at ho
end
def JE (l:List CV) (j:Nat):CV:=l.getD j (.d .nilp)
theorem uS (n:Nat) (f:Nat→CV) {j:Nat} (h:j<n):JE ((List.range n).map f) j=f j:=by
 simp [JE,List.getD_eq_getElem?_getD,h]
def CV.ren (σ:Nat→Nat):CV→CV
 | .d x=> .d x
 | .ptr b off=> .ptr (σ b) off
 | .opt b e i off=> .opt (σ b) e i off
 | .own b nn len=> .own (σ b) nn len
 | .mp b=> .mp (σ b)
 | .fn f nf n cap=> .fn f nf n (JE ((List.range n).map fun j=>(cap j).ren σ))
 | .yl b=> .yl (σ b)
def SV.ren (σ:Nat→Nat):SV→SV
 | .one c=> .one (c.ren σ)
 | .agg cs=> .agg (cs.map (CV.ren σ))
def TV.ren (σ:Nat→Nat):TV→TV
 | .v s=> .v (s.ren σ)
 | .fK l=> .fK (l.map (SV.ren σ))
def Ob.ren (σ:Nat→Nat):Ob→Ob
 | .cells E cs=> .cells E (cs.map (CV.ren σ))
 | .fcells E ds=> .fcells E ds
 | .arr E esz len el=> .arr E esz len el
 | .rows E esz len el ov=> .rows E esz len el (ov.map fun x=>(x.1,x.2.1,x.2.2.ren σ))
 | .map m=> .map {m with val:=fun i j=>(m.val i j).ren σ,ms:=m.ms.map σ}
 | .loop r st sl=> .loop r st (sl.map fun p=>(p.1,p.2.ren σ))
 | .coll=> .coll
 | .suf b l esz=> .suf (σ b) l esz
def pQ (σ:Nat→Nat) (h:List (Nat × Option Ob)):List (Nat × Option Ob):=h.map fun p=>(σ p.1,p.2.map (Ob.ren σ))
section
variable {ρ:Nat→Option Pl} {F:Nat→Prop} {w:World} {σ:Nat→Nat}
theorem xP: ∀{c:CV} {v:Value},dN ρ F w (c.ren σ) v↔dN (fun x=>ρ (σ x)) F w c v:=by
 intro c
 induction c with
 |fn f nf n cap ih=>
  intro v
  constructor
  ·rintro ⟨vs,e,hl,h⟩
   refine⟨vs,e,hl,fun j u hu=>(ih j).1 ?_⟩
   have:=h j u hu
   rwa [uS _ _ (by rw [←hl];exact(List.getElem?_eq_some_iff.1 hu).1)]at this
  ·rintro ⟨vs,e,hl,h⟩
   refine⟨vs,e,hl,fun j u hu=> ?_⟩
   rw [uS _ _ (by rw [←hl];exact(List.getElem?_eq_some_iff.1 hu).1)]
   exact(ih j).2 (h j u hu)
 |_=>intro v;exact Iff.rfl
theorem qa: ∀{cs:List CV} {vs:List Value},aU ρ F w (cs.map (CV.ren σ)) vs↔aU (fun x=>ρ (σ x)) F w cs vs
 |[],[]=>Iff.rfl
 |_::_,_::_=>and_congr xP qa
 |[],_::_=>Iff.rfl
 |_::_,[]=>Iff.rfl
theorem uZ: ∀{s:SV} {v:Value},dM ρ F w (s.ren σ) v↔dM (fun x=>ρ (σ x)) F w s v
 | .one _,_=>xP
 | .agg _,_=> ⟨fun⟨vs,e,h⟩=> ⟨vs,e,qa.1 h⟩,fun⟨vs,e,h⟩=> ⟨vs,e,qa.2 h⟩⟩
theorem nO: ∀{cs:List SV} {vs:List Value},bY ρ F w (cs.map (SV.ren σ)) vs↔bY (fun x=>ρ (σ x)) F w cs vs
 |[],[]=>Iff.rfl
 |_::_,_::_=>and_congr uZ nO
 |[],_::_=>Iff.rfl
 |_::_,[]=>Iff.rfl
theorem uF: ∀{t:TV} {v:Value},aW ρ F w (t.ren σ) v↔aW (fun x=>ρ (σ x)) F w t v
 | .v _,_=>uZ
 | .fK _,_=> ⟨fun⟨vs,e,h⟩=> ⟨vs,e,nO.1 h⟩,fun⟨vs,e,h⟩=> ⟨vs,e,nO.2 h⟩⟩
theorem DK: ∀{c:CV} {x:Nat},x∈(c.ren σ).aV↔ ∃y,y∈c.aV∧σ y=x:=by
 intro c
 induction c with
 |d y=>intro x;simp [CV.ren,CV.aV]
 |fn f nf n cap ih=>
  intro x
  simp only [CV.ren,CV.aV,List.mem_flatMap,List.mem_range]
  constructor
  ·rintro ⟨j,hj,h⟩
   rw [uS _ _ hj]at h
   obtain⟨y,hy,e⟩:=(ih j).1 h;exact⟨y,⟨j,hj,hy⟩,e⟩
  ·rintro ⟨y,⟨j,hj,hy⟩,e⟩
   refine⟨j,hj, ?_⟩
   rw [uS _ _ hj]
   exact(ih j).2 ⟨y,hy,e⟩
 |_=>intro x;simp [CV.ren,CV.aV,eq_comm]
theorem mV {α β:Type} (f:α→β): ∀(l:List (Nat × α)) (t:Nat),get (l.map fun p=>(p.1,f p.2)) t=(get l t).map f
 |[],_=>rfl
 |(k,x)::l,t=>by
  rw [List.map_cons,ay,ay,mV f l t]
  split<;>rfl
theorem AO (c:Nat→CV): ∀(i n:Nat),dh (fun j=>(c j).ren σ) i n=(dh c i n).map (CV.ren σ)
 |_,0=>rfl
 |i,n+1=>by rw [dh,dh,List.map_cons,AO c (i+1) n]
theorem IQ (agg:Bool) (cs:List CV):iE agg (cs.map (CV.ren σ))=(iE agg cs).map (SV.ren σ):=by
 cases agg with
 |true=>rfl
 |false=>match cs with
  |[]=>rfl
  |[_]=>rfl
  |_::_::_=>rfl
theorem xM {agg:Bool} {sz:Nat} {c:Nat→CV} {v:Value}:nk ρ F w agg sz (fun j=>(c j).ren σ) v↔nk (fun x=>ρ (σ x)) F w agg sz c v:=by
 unfold nk
 rw [AO,IQ]
 constructor
 ·rintro ⟨s,e,h⟩
  cases hh:iE agg (dh c 0 sz)with
  |none=>rw [hh]at e;cases e
  |some s'=>rw [hh]at e;cases e;exact⟨s',rfl,uZ.1 h⟩
 ·rintro ⟨s,e,h⟩
  rw [e]
  exact⟨_,rfl,uZ.2 h⟩
theorem Dg {S:Nat→Prop} {rb:Nat→Nat→Option Nat} {el:Nat→Nat→EV} {ov:Option (Nat × Nat × CV)} {i j:Nat} {v:Value}:
  qK ρ F w S rb el (ov.map fun x=>(x.1,x.2.1,x.2.2.ren σ)) i j v↔qK (fun x=>ρ (σ x)) F w S rb el ov i j v:=by
 unfold qK
 cases ov with
 |none=>exact Iff.rfl
 |some x=>
  simp only [Option.map_some]
  split
  ·exact xP
  ·exact Iff.rfl
theorem Dc (hσ: ∀x y,σ x=σ y→x=y) {S:Nat→Prop} {b:Nat} {ob:Ob}:iC ρ F w S (σ b) (ob.ren σ)↔iC (fun x=>ρ (σ x)) F w S b ob:=by
 cases ob with
 |cells E cs=>
  constructor
  ·rintro ⟨k,cap,vs,h1,h2,h3,h4⟩;exact⟨k,cap,vs,h1,h2,h3,qa.1 h4⟩
  ·rintro ⟨k,cap,vs,h1,h2,h3,h4⟩;exact⟨k,cap,vs,h1,h2,h3,qa.2 h4⟩
 |fcells E ds=>exact Iff.rfl
 |arr E esz len el=>exact Iff.rfl
 |rows E esz len el ov=>
  constructor
  ·rintro (h|⟨k,base,cap,vs,rb,h1,h2,h3,h4,h5,h6,h7,h8,h9⟩)
   ·exact .inl h
   ·exact .inr ⟨k,base,cap,vs,rb,h1,h2,h3,h4,h5,h6,fun i hi j hj=>by obtain⟨u,hu,hr⟩:=h7 i hi j hj;exact⟨u,hu,Dg.1 hr⟩,h8,h9⟩
  ·rintro (h|⟨k,base,cap,vs,rb,h1,h2,h3,h4,h5,h6,h7,h8,h9⟩)
   ·exact .inl h
   ·exact .inr ⟨k,base,cap,vs,rb,h1,h2,h3,h4,h5,h6,fun i hi j hj=>by obtain⟨u,hu,hr⟩:=h7 i hi j hj;exact⟨u,hu,Dg.2 hr⟩,h8,h9⟩
 |map m=>
  have hk: ∀i v,nk ρ F w m.kagg m.ksz (fun j=> .d (m.key i j)) v↔nk (fun x=>ρ (σ x)) F w m.kagg m.ksz (fun j=> .d (m.key i j)) v:=fun i v=>xM (c:=fun j=> .d (m.key i j))
  constructor
  ·rintro ⟨k,base,cap,es,h1,h2,h3,h4,h5,h6⟩
   refine⟨k,base,cap,es,h1,h2,h3,h4,fun i hi j hj x hx=> ?_,fun i hi=> ?_⟩
   ·obtain⟨y,hy,e⟩:=List.mem_map.1 (h5 i hi j hj (σ x) (DK.2 ⟨x,hx,rfl⟩))
    rw [←hσ _ _ e];exact hy
   ·obtain⟨e,g1,g2,g3,g4⟩:=h6 i hi;exact⟨e,g1,g2,(hk _ _).1 g3,xM.1 g4⟩
  ·rintro ⟨k,base,cap,es,h1,h2,h3,h4,h5,h6⟩
   refine⟨k,base,cap,es,h1,h2,h3,h4,fun i hi j hj x hx=> ?_,fun i hi=> ?_⟩
   ·obtain⟨y,hy,e⟩:=DK.1 hx
    exact List.mem_map.2 ⟨y,h5 i hi j hj y hy,e⟩
   ·obtain⟨e,g1,g2,g3,g4⟩:=h6 i hi;exact⟨e,g1,g2,(hk _ _).2 g3,xM.2 g4⟩
 |loop r st sl=>
  constructor
  ·rintro ⟨k,base,cap,fn,tmps,D,h1,h2,h3,h4,h5,h6⟩
   refine⟨k,base,cap,fn,tmps,D,h1,h2,h3,h4,h5,fun t tv ht=> ?_⟩
   obtain⟨v,hv,hr⟩:=h6 t (tv.ren σ) (by rw [mV,ht];rfl)
   exact⟨v,hv,uF.1 hr⟩
  ·rintro ⟨k,base,cap,fn,tmps,D,h1,h2,h3,h4,h5,h6⟩
   refine⟨k,base,cap,fn,tmps,D,h1,h2,h3,h4,h5,fun t tv ht=> ?_⟩
   rw [mV]at ht
   cases hg:get sl t with
   |none=>rw [hg]at ht;cases ht
   |some tv'=>rw [hg]at ht;cases ht;obtain⟨v,hv,hr⟩:=h6 t tv' hg;exact⟨v,hv,uF.2 hr⟩
 |coll=>exact Iff.rfl
 |suf b0 l esz=>exact Iff.rfl
end
structure Rn (σ τ:Nat→Nat):Prop where
 st: ∀x,σ (τ x)=x
 ts: ∀x,τ (σ x)=x
theorem Rn.inj {σ τ:Nat→Nat} (r:Rn σ τ) {x y:Nat} (h:σ x=σ y):x=y:=by rw [←r.ts x,h,r.ts]
theorem Di {σ τ:Nat→Nat} (r:Rn σ τ): ∀(h:List (Nat × Option Ob)) (b:Nat),get (pQ σ h) (σ b)=(get h b).map (Option.map (Ob.ren σ))
 |[],_=>rfl
 |(k,x)::h,b=>by
  show get ((σ k,x.map (Ob.ren σ))::pQ σ h) (σ b)=_
  rw [ay,ay,Di r h b]
  by_cases e:k=b
  ·rw [if_pos e,if_pos (by rw [e])];rfl
  ·rw [if_neg e,if_neg (fun e'=>e (r.inj e'))]
theorem Bn {σ τ:Nat→Nat} (r:Rn σ τ) {B:Base} {ρ0:Nat→Option Pl} {ρ:Nat→Option Pl} {F:Nat→Prop} {w:World} {h:List (Nat × Option Ob)}:
  HI B ρ F w (aP (pQ σ h))↔HI {B with ρ:=ρ0} (fun x=>ρ (σ x)) F w (aP h):=by
 have hg: ∀b,aP (pQ σ h) (σ b)=(aP h b).map (Option.map (Ob.ren σ)):=Di r h
 have hg': ∀b,aP (pQ σ h) b=(aP h (τ b)).map (Option.map (Ob.ren σ)):=fun b=>by rw [←hg,r.st]
 have key: ∀b ob,aP h b=some (some ob)→aP (pQ σ h) (σ b)=some (some (ob.ren σ)):=fun b ob hh=>by rw [hg,hh];rfl
 have key': ∀b ob',aP (pQ σ h) b=some (some ob')→ ∃ob,aP h (τ b)=some (some ob)∧ob'=ob.ren σ:=fun b ob' hh=>by
  rw [hg']at hh
  cases h1:aP h (τ b)with
  |none=>rw [h1]at hh;cases hh
  |some o=>cases o with
   |none=>rw [h1]at hh;cases hh
   |some ob=>rw [h1]at hh;cases hh;exact⟨ob,rfl,rfl⟩
 constructor
 ·rintro ⟨ft,hi⟩
  refine⟨fun b=>ft (σ b),fun b ob hh=>(Dc fun _ _=>r.inj).1 (hi.obj _ _ (key b ob hh)),fun b ob k hh hk=>hi.blk _ _ k (key b ob hh) hk,fun b b' ob ob' k h1 h2 k1 k2=>r.inj (hi.dis _ _ _ _ k (key _ _ h1) (key _ _ h2) k1 k2),fun b hb=>hi.fresh _ ?_,hi.gl⟩
  rw [hg,hb];rfl
 ·rintro ⟨ft,hi⟩
  refine⟨fun b=>ft (τ b),fun b ob' hh=> ?_,fun b ob' k hh hk=> ?_,fun b b' ob ob' k h1 h2 k1 k2=> ?_,fun b hb=> ?_,hi.gl⟩
  ·obtain⟨ob,h1,rfl⟩:=key' b ob' hh
   have:=(Dc fun _ _=>r.inj).2 (hi.obj _ _ h1)
   rwa [r.st]at this
  ·obtain⟨ob,h1,rfl⟩:=key' b ob' hh
   exact hi.blk _ _ k h1 hk
  ·obtain⟨o1,g1,_⟩:=key' b ob h1
   obtain⟨o2,g2,_⟩:=key' b' ob' h2
   have:=hi.dis _ _ _ _ k g1 g2 k1 k2
   rw [←r.st b,this,r.st]
  ·have:=hi.fresh (τ b) (by
    have:=hg' b;rw [hb]at this
    cases h1:aP h (τ b)with
    |none=>rfl
    |some o=>rw [h1]at this;cases this)
   simpa [r.st]using this
theorem Fn.ren {σ τ:Nat→Nat} (r:Rn σ τ) {P:Program} {f:FuncId} {args:List SV} {hin hout:List (Nat × Option Ob)} {res:TV} (h:Fn P f args hin res hout):
  Fn P f (args.map (SV.ren σ)) (pQ σ hin) (res.ren σ) (pQ σ hout):=by
 refine⟨h.1,fun B vs hF hi hr=> ?_⟩
 have hc:=h.2 {B with ρ:=fun x=>B.ρ (σ x)} vs hF ((Bn r).1 hi) (nO (σ:=σ).1 hr)
 refine Calls.mono hc ?_
 rintro e w' ⟨v,ρ',F',rfl,hf,h1,h2⟩
 refine⟨v,fun x=>ρ' (τ x),F',rfl, ?_, ?_, ?_⟩
 ·refine⟨hf.os,hf.tape,hf.output,hf.size,hf.mem,fun b p hb=>hf.rho (τ b) p ?_,hf.fz,hf.bf⟩
  show B.ρ (σ (τ b))=some p
  rw [r.st];exact hb
 ·refine(Bn (ρ0:=fun x=>B.ρ (σ x)) r).2 ?_
  have:(fun x=>(fun x=>ρ' (τ x)) (σ x))=ρ':=by funext x;simp [r.ts]
  rw [this];exact h1
 ·refine uF.2 ?_
  have:(fun x=>(fun x=>ρ' (τ x)) (σ x))=ρ':=by funext x;simp [r.ts]
  rw [this];exact h2
def sw (a b x:Nat):Nat:=bif Nat.beq x a then b else bif Nat.beq x b then a else x
def swp:List (Nat × Nat)→Nat→Nat
 |[],x=>x
 |(a,b)::l,x=>swp l (sw a b x)
def tQ:List (Nat × Nat)→Nat→Nat
 |[],x=>x
 |(a,b)::l,x=>sw a b (tQ l x)
theorem Fh (a b x:Nat):sw a b x=if x=a then b else if x=b then a else x:=by
 unfold sw
 cases h:Nat.beq x a with
 |true=>rw [if_pos (Nat.eq_of_beq_eq_true h)];rfl
 |false=>
  rw [if_neg (Nat.ne_of_beq_eq_false h)]
  cases h':Nat.beq x b with
  |true=>rw [if_pos (Nat.eq_of_beq_eq_true h')];rfl
  |false=>rw [if_neg (Nat.ne_of_beq_eq_false h')];rfl
theorem KV (a b x:Nat):sw a b (sw a b x)=x:=by
 rw [Fh a b x]
 by_cases h1:x=a
 ·rw [if_pos h1,Fh]
  by_cases h3:b=a
  ·rw [if_pos h3,h1,h3]
  ·rw [if_neg h3,if_pos rfl,h1]
 ·rw [if_neg h1]
  by_cases h2:x=b
  ·rw [if_pos h2,Fh,if_pos rfl,h2]
  ·rw [if_neg h2,Fh,if_neg h1,if_neg h2]
theorem Bc: ∀l:List (Nat × Nat),Rn (swp l) (tQ l)
 |[]=> ⟨fun _=>rfl,fun _=>rfl⟩
 |(a,b)::l=> ⟨fun x=>by show swp l (sw a b (sw a b (tQ l x)))=x;rw [KV,(Bc l).st],fun x=>by show sw a b (tQ l (swp l (sw a b x)))=x;rw [(Bc l).ts,KV]⟩
theorem Fn.LQ {P:Program} {f:FuncId} {args args':List SV} {hin hin' hout hout':List (Nat × Option Ob)} {res res':TV} (l:List (Nat × Nat)) (h:Fn P f args hin res hout)
  (e1:args.map (SV.ren (swp l))=args') (e2:pQ (swp l) hin=hin') (e3:res.ren (swp l)=res') (e4:pQ (swp l) hout=hout'):Fn P f args' hin' res' hout':=by
 subst e1;subst e2;subst e3;subst e4
 exact h.ren (Bc l)
def Fx:DV→Bool
 | .int _ _| .bool _| .str _| .nilp| .nilf| .nilm=>true
 |_=>false
def zX:CV→Bool
 | .d x=>Fx x
 |_=>false
def EZ:SV→Bool
 | .one c=>zX c
 | .agg cs=>cs.all zX
def KM:TV→Bool
 | .v s=>EZ s
 | .fK l=>l.all EZ
section
variable {ρ ρ':Nat→Option Pl} {F F':Nat→Prop} {w w':World}
theorem zS {c:CV} {v:Value} (h:zX c=true) (hr:dN ρ F w c v):dN ρ' F' w' c v:=by
 cases c with
 |d x=>cases x<;>first|exact hr|simp [zX,Fx]at h
 |_=>simp [zX]at h
theorem zP: ∀{cs:List CV} {vs:List Value},cs.all zX=true→aU ρ F w cs vs→aU ρ' F' w' cs vs
 |[],[],_,_=>trivial
 |c::cs,v::vs,h,⟨h1,h2⟩=>by
  simp only [List.all_cons,Bool.and_eq_true]at h
  exact⟨zS h.1 h1,zP h.2 h2⟩
 |[],_::_,_,h=>h.elim
 |_::_,[],_,h=>h.elim
theorem zU {s:SV} {v:Value} (h:EZ s=true) (hr:dM ρ F w s v):dM ρ' F' w' s v:=by
 cases s with
 |one c=>exact zS h hr
 |agg cs=>obtain⟨vs,e,hl⟩:=hr;exact⟨vs,e,zP h hl⟩
theorem zm: ∀{cs:List SV} {vs:List Value},cs.all EZ=true→bY ρ F w cs vs→bY ρ' F' w' cs vs
 |[],[],_,_=>trivial
 |c::cs,v::vs,h,⟨h1,h2⟩=>by
  simp only [List.all_cons,Bool.and_eq_true]at h
  exact⟨zU h.1 h1,zm h.2 h2⟩
 |[],_::_,_,h=>h.elim
 |_::_,[],_,h=>h.elim
theorem FN {t:TV} {v:Value} (h:KM t=true) (hr:aW ρ F w t v):aW ρ' F' w' t v:=by
 cases t with
 |v s=>exact zU h hr
 |fK l=>obtain⟨vs,e,hl⟩:=hr;exact⟨vs,e,zm h hl⟩
end
theorem Fn.Gm {P:Program} {f:Nat} {args args':List SV} {hin:List (Nat × Option Ob)} {res:TV} {frz:List Nat} {p:List Prop} (h:Fn P f args [] res []) (he:wD ⟨frz,[]⟩ (aP hin) args'=some (p,args)) (hp:All p) (hres:KM res=true):
  Fn P f args' hin res hin:=by
 refine⟨h.1,fun B vs hF hi hr=> ?_⟩
 obtain⟨ft,hi⟩:=hi
 have hfr:Fr B B.ρ B.F B.w:=⟨rfl,rfl, .refl _,Nat.le_refl _,fun _ _ _=>rfl,fun _ _ h=>h,fun k hk=> ⟨hF k hk, .inl hk⟩,fun _ h=>h⟩
 have hr2:=vw (f:=⟨frz,[]⟩) List.nodup_nil hi he hp hr
 have hF2: ∀k,rW ft B.F (aP hin) frz k→k<B.w.heap.size:=fun k hk=>by
  rcases hk with hk|⟨b,ob,_,hob,hk⟩
  ·exact hF k hk
  ·exact(hi.blk b ob k hob hk).1
 refine Calls.mono (h.2 ⟨B.w,sj B.ρ [],rW ft B.F (aP hin) frz,(fun _=>False),0⟩ vs hF2 ⟨fun _ _=>False,⟨fun _ _ hh=>by simp [aP,get]at hh,fun _ _ _ hh=>by simp [aP,get]at hh,fun _ _ _ _ _ hh=>by simp [aP,get]at hh,fun _ _=>rfl,fun x hx=> ⟨.inl (hi.gl x hx).1,(hi.gl x hx).2⟩⟩⟩ hr2) ?_
 rintro e w' ⟨v,ρ',F',rfl,h1,h2,h3⟩
 have hmem: ∀k,k<B.w.heap.size→w'.heap[k]? =B.w.heap[k]? :=fun k hk=>h1.mem k hk fun hh=>hh
 have g:Gr B.ρ B.F B.w B.ρ B.F w':=⟨fun _ _ h=>h,fun _ h=>h,fun k hk=>hmem k (hF k hk)⟩
 refine⟨v,B.ρ,B.F,rfl,⟨h1.os,h1.tape,h1.output,h1.size,fun k hk _=>hmem k hk,fun _ _ h=>h,fun k hk=> ⟨Nat.lt_of_lt_of_le (hF k hk) h1.size, .inl hk⟩,fun _ h=>h⟩,⟨ft, ?_⟩,FN hres h3⟩
 exact hi.step g hfr h1.size (fun _=>False) (fun b ob _ hb=> ⟨hb,fun k hk=>hmem k (hi.blk b ob k hb hk).1,fun _=>Iff.rfl⟩) (fun _ _ h=>h.elim) (fun _ _ _ h=>h.elim) (fun _ _ _ _ _ h=>h.elim) (fun k hk=> .inl hk) hi.fresh
section
variable {κ α:Type}
def aN (eq:κ→κ→Bool) (k:κ):List (κ × α)→Option α
 |[]=>none
 |(k',v)::l=>bif eq k k' then some v else aN eq k l
def fo (eq:κ→κ→Bool) (k:κ) (v:α):List (κ × α)→List (κ × α)
 |[]=>[(k,v)]
 |(k',v')::l=>bif eq k k' then(k,v)::l else(k',v')::fo eq k v l
def bH (a b:Int):Bool:=decide (a=b) && true
def nN [Inhabited κ] (kc:κ→Nat→DV) (l:List (κ × α)):Nat→Nat→DV:=av kc (l.map (·.1))
def oG [Inhabited α] (vc:α→Nat→DV) (l:List (κ × α)):Nat→Nat→CV:=fun i j=> .d (av vc (l.map (·.2)) i j)
def KU [Inhabited κ] [Inhabited α] (K V:TypeId) (ka va:Bool) (ksz vsz:Nat) (kc:κ→Nat→DV) (vc:α→Nat→DV) (l:List (κ × α)):Ob:= .map ⟨K,V,ka,va,ksz,vsz,l.length,nN kc l,oG vc l,[]⟩
section
variable [Inhabited κ] [Inhabited α] {eq:κ→κ→Bool} {kc:κ→Nat→DV} {vc:α→Nat→DV} {ks:List (Option IntKind)} {ksz vsz:Nat}
theorem nA (x:κ × α) (l:List (κ × α)):nN kc (x::l) 0=kc x.1:=rfl
theorem kI (x:κ × α) (l:List (κ × α)) (i:Nat):nN kc (x::l) (i+1)=nN kc l i:=by
 funext j;simp [nN,av,at']
theorem IE (x:κ × α) (l:List (κ × α)):oG vc (x::l) 0=fun j=> .d (vc x.2 j):=rfl
theorem tX (x:κ × α) (l:List (κ × α)) (i:Nat):oG vc (x::l) (i+1)=oG vc l i:=by
 funext j;simp [oG,av,at']
theorem Cn (hk: ∀x,ai ks (aZ (kc x) 0 ksz)=true): ∀(l:List (κ × α)) (i:Nat),i<l.length→ai ks (aZ (nN kc l i) 0 ksz)=true
 |l,i,_=>hk _
theorem cu (hk: ∀x,ai ks (aZ (kc x) 0 ksz)=true) (he: ∀a b,fM (aZ (kc a) 0 ksz) (aZ (kc b) 0 ksz)=some (eq a b)) (l:List (κ × α)) (k:κ) (d:α) {kd:List DV} {zero cs:List CV}
  (hkd:kd=aZ (kc k) 0 ksz) (hz:zero=dh (fun j=> .d (vc d j)) 0 vsz) (hcs:cs=dh (fun j=> .d (vc ((aN eq k l).getD d) j)) 0 vsz):
  dW ks ksz vsz l.length (nN kc l) (oG vc l) kd zero (aN eq k l).isSome cs:=by
 subst hkd
 refine⟨Cn hk l, ?_⟩
 have key: ∀(l:List (κ × α)),((aN eq k l).isSome=true∧ ∃i,i<l.length∧fM (aZ (kc k) 0 ksz) (aZ (nN kc l i) 0 ksz)=some true∧(∀i',i'<i→fM (aZ (kc k) 0 ksz) (aZ (nN kc l i') 0 ksz)=some false)∧dh (fun j=> .d (vc ((aN eq k l).getD d) j)) 0 vsz=dh (oG vc l i) 0 vsz)∨
   ((aN eq k l).isSome=false∧(∀i,i<l.length→fM (aZ (kc k) 0 ksz) (aZ (nN kc l i) 0 ksz)=some false)):=by
  intro l
  induction l with
  |nil=>right;exact⟨rfl,fun i hi=>absurd hi (Nat.not_lt_zero i)⟩
  |cons x l ih=>
   obtain⟨k',v⟩:=x
   cases hb:eq k k' with
   |true=>
    left
    refine⟨by simp [aN,hb],0,by simp,by rw [nA,he,hb],fun i' hi'=>absurd hi' (Nat.not_lt_zero i'), ?_⟩
    simp only [aN,hb,cond_true,Option.getD_some];rfl
   |false=>
    have h0:aN eq k ((k',v)::l)=aN eq k l:=by simp [aN,hb]
    rw [h0]
    rcases ih with⟨h1,i,h2,h3,h4,h5⟩|⟨h1,h2⟩
    ·left
     refine⟨h1,i+1,by simp;omega,by rw [kI];exact h3,fun i' hi'=> ?_,by rw [tX];exact h5⟩
     cases i' with
     |zero=>rw [nA,he,hb]
     |succ i'=>rw [kI];exact h4 i' (by omega)
    ·right
     refine⟨h1,fun i hi=> ?_⟩
     cases i with
     |zero=>rw [nA,he,hb]
     |succ i=>rw [kI];exact h2 i (by simpa using hi)
 rcases key l with⟨h1,i,h2,h3,h4,h5⟩|⟨h1,h2⟩
 ·exact .inl ⟨h1,i,h2,h3,h4,hcs.trans h5⟩
 ·refine .inr ⟨h1,h2, ?_⟩
  rw [hcs,hz]
  cases hm:aN eq k l with
  |none=>rfl
  |some v=>rw [hm]at h1;cases h1
theorem pX (hk: ∀x,ai ks (aZ (kc x) 0 ksz)=true) (he: ∀a b,fM (aZ (kc a) 0 ksz) (aZ (kc b) 0 ksz)=some (eq a b)) (l:List (κ × α)) (k:κ) (v:α) {kd:List DV} {vd:List CV}
  (hkd:kd=aZ (kc k) 0 ksz) (hvd:vd=dh (fun j=> .d (vc v j)) 0 vsz):
  jE ks ksz vsz l.length (nN kc l) (oG vc l) kd vd [] (fo eq k v l).length (nN kc (fo eq k v l)) (oG vc (fo eq k v l)):=by
 subst hkd;subst hvd
 refine⟨Cn hk l,fun i _ j _ x hx=>by simp [oG,CV.aV]at hx, ?_⟩
 induction l with
 |nil=>exact⟨0,fun i' hi'=>absurd hi' (Nat.not_lt_zero i'), .inr ⟨rfl,rfl⟩,rfl,rfl,fun i' hi'=>absurd hi' (Nat.not_lt_zero i')⟩
 |cons x l ih=>
  obtain⟨k',v'⟩:=x
  cases hb:eq k k' with
  |true=>
   have h0:fo eq k v ((k',v')::l)=(k,v)::l:=by simp [fo,hb]
   rw [h0]
   refine⟨0,fun i' hi'=>absurd hi' (Nat.not_lt_zero i'), .inl ⟨by simp,by rw [nA,he,hb],rfl⟩,rfl,rfl,fun i' hi' hne=> ?_⟩
   cases i' with
   |zero=>exact absurd rfl hne
   |succ i'=>simp only [kI,tX,and_self]
  |false=>
   have h0:fo eq k v ((k',v')::l)=(k',v')::fo eq k v l:=by simp [fo,hb]
   rw [h0]
   obtain⟨i,h1,h2,h3,h4,h5⟩:=ih
   refine⟨i+1,fun i' hi'=> ?_, ?_,by rw [kI];exact h3,by rw [tX];exact h4,fun i' hi' hne=> ?_⟩
   ·cases i' with
    |zero=>rw [nA,he,hb]
    |succ i'=>rw [kI];exact h1 i' (by omega)
   ·rcases h2 with⟨a,b,c⟩|⟨a,b⟩
    ·exact .inl ⟨by simp;omega,by rw [kI];exact b,by simp [c]⟩
    ·exact .inr ⟨by simp [a],by simp [b]⟩
   ·cases i' with
    |zero=>simp only [nA,IE,and_self]
    |succ i'=>
     simp only [kI,tX]
     exact h5 i' (by simpa using hi') (by omega)
end
end
def IG:List Nat→Code→Code
 |[],c=>c
 |i::l,c=>match c,i with
  | .seq x _,0=>IG l x
  | .seq _ y,_=>IG l y
  | .cond _ x _,0=>IG l x
  | .cond _ _ y,_=>IG l y
  | .block _ x,_=>IG l x
  | .loop x,_=>IG l x
  | .scope x,_=>IG l x
  | .rangeFunc _ _ x _,0=>IG l x
  | .rangeFunc _ _ _ y,_=>IG l y
  |c,_=>c
def rQ (f:Func):Code:=match f.body with|some c=>c|none=> .skip
theorem Fu.of {x y:Option Ob} (h:x=y):Fu x y:=h ▸ .refl x
section
variable {rd:Option Nat} {P:Program} {B:Base} {N:Nat} {L:List Nat} {Q:Exit→St→Prop} {st st':St}
end
section
variable (rd:Option Nat) (P:Program) (B:Base) (N:Nat) (L:List Nat) (c:Code) (Q:Exit→St→Prop)
def LoopN:Nat→St→Prop
 |0,_=>False
 |m+1,st=>jy rd P B N L c (fun e st'=>match e with| .normal=>LoopN m st'|e=>Q e st') st
end
section
variable {rd:Option Nat} {P:Program} {B:Base} {N:Nat} {L:List Nat} {Q:Exit→St→Prop} {st:St} {c:Code}
theorem Gg (m:Nat) (h:LoopN rd P B N L c Q m st):jy rd P B N L (.loop c) Q st:=by
 intro a w hc
 refine wpIn_loop_rounds m ?_
 revert st a w
 induction m with
 |zero=>intro st h;exact h.elim
 |succ m ih=>
  intro st h a w hc
  rw [roundsIn_succ]
  refine wpIn_mono (h a w hc) ?_
  rintro e a' w' ⟨st',h1,h2⟩
  cases e with
  |normal=>exact ih h1 a' w' h2
  |exit id=>exact⟨st',h1,h2⟩
  |goto l=>exact⟨st',h1,h2⟩
  |ret=>exact⟨st',h1,h2⟩
  |panic v=>exact⟨st',h1,h2⟩
  |outgrown=>exact⟨st',h1,h2⟩
end
theorem wN {P:Program} {b:Frame} {a:Act} {k:List Item} {cs:List Frame} {w:World} {c:Code}:Go.step P (lone (b.atR a (.code (.scope c)::k)) cs w)= .next (lone (b.atR a (.code c:: .inScope c::k)) cs w):=
 step_lone_go (by simp [stepG,stepG.exec,Frame.atR])
theorem qW {P:Program} {b:Frame} {a:Act} {k:List Item} {cs:List Frame} {w:World} {c:Code}:Go.step P (lone (b.atR a (.inScope c::k)) cs w)= .next (lone (b.atR a k) cs w):=
 step_lone_go (by simp [stepG,stepG.exec,Frame.atR])
def GQ {σ ρ:Type} (l:Nat) (S:σ→St) (R:ρ→Exit→St→Prop):bT σ ρ→Exit→St→Prop
 | .next s,e,st=>e= .goto l∧st=S s
 | .done r,e,st=>(∀l',e≠ .goto l')∧R r e st
section
variable {rd:Option Nat} {P:Program} {B:Base} {N:Nat} {L:List Nat} {st:St}
theorem Eb {σ ρ:Type} {c rest:Code} (l:Nat) (hf:findLabel c l=some rest) (S:σ→St) (R:ρ→Exit→St→Prop) {body:σ→Option (bT σ ρ)} {n:Nat} {s0:σ} {o:ρ} (h:aI body n s0=some o)
  (hb: ∀s f,body s=some f→jy rd P B N L rest (GQ l S R f) (S s)) (h1: ∀f,body s0=some f→jy rd P B N L c (GQ l S R f) st):jy rd P B N L (.scope c) (R o) st:=by
 intro a w hc b k cs hro hbu hr
 have hg:gotoIn l (.inScope c::k)=some (.code rest:: .inScope c::k):=by simp [gotoIn,hf]
 have fin: ∀(m:Nat) (s:σ) (f:bT σ ρ) (x:Code) (a:Act) (w:World),aI body (m+1) s=some o→body s=some f→
   (∀s' a' w',aI body m s'=some o→Conc B N L (S s') a' w'→ ∃e a2 w2,(∃st',R o e st'∧Conc B N L st' a2 w2)∧ArrivesIn (Machine.fenced P (FW rd)) P (lone (b.atR a' (.code rest:: .inScope c::k)) cs w') b k cs e a2 w2)→
   (∃e a1 w1,(∃st',GQ l S R f e st'∧Conc B N L st' a1 w1)∧ArrivesIn (Machine.fenced P (FW rd)) P (lone (b.atR a (.code x:: .inScope c::k)) cs w) b (.inScope c::k) cs e a1 w1)→
   ∃e a2 w2,(∃st',R o e st'∧Conc B N L st' a2 w2)∧ArrivesIn (Machine.fenced P (FW rd)) P (lone (b.atR a (.code x:: .inScope c::k)) cs w) b k cs e a2 w2:=by
  rintro m s f x a w hl hbs ih ⟨e,a1,w1,⟨st',hq,hconc⟩,harr⟩
  rw [dY,hbs]at hl
  cases f with
  |next s'=>
   obtain⟨rfl,rfl⟩:=hq
   obtain⟨e2,a2,w2,hq2,harr2⟩:=ih s' a1 w1 hl hconc
   exact⟨e2,a2,w2,hq2, .of_steps (harr.1 _ hg) harr2⟩
  |done r=>
   obtain⟨hng,hR⟩:=hq
   simp only [Option.some.injEq]at hl
   subst hl
   cases e with
   |normal=>exact⟨.normal,a1,w1,⟨st',hR,hconc⟩,StepsIn.trans harr (.one (fenced_calm hbu hr rfl) qW)⟩
   |exit id=>
    have hx:exitTo id (.inScope c::k)=exitTo id k:=by simp [exitTo]
    exact⟨_,a1,w1,⟨st',hR,hconc⟩,fun k' hk=>harr.1 k' (by rw [hx];exact hk),fun hr' hk=>harr.2 hr' (by rw [hx];exact hk)⟩
   |goto l'=>exact absurd rfl (hng l')
   |ret=>exact⟨_,a1,w1,⟨st',hR,hconc⟩,harr⟩
   |panic ch=>exact⟨_,a1,w1,⟨st',hR,hconc⟩,harr⟩
   |outgrown=>exact⟨_,a1,w1,⟨st',hR,hconc⟩,harr⟩
 have key: ∀m s a w,aI body m s=some o→Conc B N L (S s) a w→ ∃e a2 w2,(∃st',R o e st'∧Conc B N L st' a2 w2)∧ArrivesIn (Machine.fenced P (FW rd)) P (lone (b.atR a (.code rest:: .inScope c::k)) cs w) b k cs e a2 w2:=by
  intro m
  induction m with
  |zero=>intro s a w hl;cases hl
  |succ m ih=>
   intro s a w hl hconc
   cases hbs:body s with
   |none=>rw [dY,hbs]at hl;cases hl
   |some f=>exact fin m s f rest a w hl hbs (fun s' a' w' h1 h2=>ih s' a' w' h1 h2) (hb s f hbs a w hconc b (.inScope c::k) cs hro hbu hr)
 cases n with
 |zero=>cases h
 |succ n=>
  cases hbs:body s0 with
  |none=>rw [dY,hbs]at h;cases h
  |some f=>
   obtain⟨e,a2,w2,hq,harr⟩:=fin n s0 f c a w h hbs (fun s' a' w' h1 h2=>key n s' a' w' h1 h2) (h1 f hbs a w hc b (.inScope c::k) cs hro hbu hr)
   exact⟨e,a2,w2,hq, .of_steps (.one (fenced_calm hbu hr rfl) wN) harr⟩
end
section
variable {rd:Option Nat} {P:Program} {B:Base} {N:Nat} {L:List Nat} {Q:Exit→St→Prop} {st:St}
end
theorem Yl.LQ {P:Program} {b b':Nat} {args args':List SV} {hin hin' hout hout':List (Nat × Option Ob)} {res res':TV} (l:List (Nat × Nat)) (h:Yl P b args hin res hout)
  (e0:swp l b=b') (e1:args.map (SV.ren (swp l))=args') (e2:pQ (swp l) hin=hin') (e3:res.ren (swp l)=res') (e4:pQ (swp l) hout=hout'):Yl P b' args' hin' res' hout':=by
 subst e0;subst e1;subst e2;subst e3;subst e4
 have r:=Bc l
 intro B vs lp base cap hF hi hr hb
 obtain⟨fn,tmps,assign,body,h1,h2⟩:=h {B with ρ:=fun x=>B.ρ (swp l x)} vs lp base cap hF ((Bn r).1 hi) (nO (σ:=swp l).1 hr) hb
 refine⟨fn,tmps,assign,body,h1,h2.mono ?_⟩
 rintro e w' ⟨v,rfl,ρ',F',hf,g1,g2⟩
 refine⟨v,rfl,fun x=>ρ' (tQ l x),F', ?_, ?_, ?_⟩
 ·refine⟨hf.os,hf.tape,hf.output,hf.size,hf.mem,fun b p hb=>hf.rho (tQ l b) p ?_,hf.fz,hf.bf⟩
  show B.ρ (swp l (tQ l b))=some p
  rw [r.st];exact hb
 ·refine(Bn (ρ0:=fun x=>B.ρ (swp l x)) r).2 ?_
  have:(fun x=>(fun x=>ρ' (tQ l x)) (swp l x))=ρ':=by funext x;simp [r.ts]
  rw [this];exact g1
 ·refine uF.2 ?_
  have:(fun x=>(fun x=>ρ' (tQ l x)) (swp l x))=ρ':=by funext x;simp [r.ts]
  rw [this];exact g2
def OB:List DV→List DV→Prop
 |[],[]=>True
 |x::xs,y::ys=>kG x y∧OB xs ys
 |_,_=>False
theorem OB.get: ∀{xs ys:List DV},OB xs ys→xs.length=ys.length∧ ∀j,kG (xs.getD j .nilp) (ys.getD j .nilp)
 |[],[],_=> ⟨rfl,fun _=> .refl _⟩
 |x::xs,y::ys,⟨h1,h2⟩=>by
  obtain⟨g1,g2⟩:=OB.get h2
  refine⟨by simp [g1],fun j=> ?_⟩
  cases j with
  |zero=>exact h1
  |succ j=>simpa using g2 j
 |[],_::_,h=>h.elim
 |_::_,[],h=>h.elim
def jI {α:Type} [Inhabited α] (c:α→Nat→EV) (l:List α):Nat→Nat→EV:=fun i j=>c (at' l i) j
section
variable {α:Type} [Inhabited α]
theorem gD (c:α→Nat→EV) (l:List α) (n esz i off:Nat) (v:EV) (x:α) (hn:n=l.length) (h: ∀j,j<esz→c x j=if j=off then v else c (at' l i) j):tH n esz (KZ (jI c l) i off v) (jI c (l.set i x)):=by
 intro i' hi' j hj
 unfold KZ jI
 by_cases e:i'=i
 ·subst e
  rw [iB (by omega),h j hj]
  by_cases e2:j=off<;>simp [e2]
 ·rw [je (Ne.symm e),if_neg (fun hh=>e hh.1)]
theorem xC (c:α→Nat→EV) (l m:List α) (esz:Nat) (elx:Nat→Nat→DV) (h: ∀i,i<m.length→ ∀j,j<esz→FQ (elx i j) (c (at' m i) j)):nW l.length m.length esz (jI c l) elx (jI c (l++m)):=by
 refine⟨fun i hi j _=> ?_,fun i hi j hj=> ?_⟩
 ·unfold jI;rw [oV hi]
 ·unfold jI
  rw [nP (by omega),Nat.add_sub_cancel_left]
  exact h i hi j hj
end
def mO (ks:List DV):Nat→Nat→DV:=fun i _=>ks.getD i .nilp
def Hf (vsz:Nat) (vs:List CV):Nat→Nat→CV:=fun i j=>vs.getD (i*vsz+j) (.d .nilp)
theorem Fn.nn {P:Program} {f:Nat} {esz len:Nat} {el:Nat→Nat→DV} {hin hout:List (Nat × Option Ob)} {res:TV} (h1:Fn P f [.one (.d (.sl (some true) esz len el))] hin res hout) (h2:len=0→Fn P f [.one (.d (.sl (some false) esz len el))] hin res hout):
  Fn P f [.one (.d (.sl none esz len el))] hin res hout:=by
 refine⟨h1.1,fun B vs hF hi hr=> ?_⟩
 match vs,hr with
 |[v],⟨⟨a,cap,hv,_,_,h3,h4,h5⟩,_⟩=>
  cases a with
  |none=>exact(h2 (h3 rfl).1).2 B [v] hF hi ⟨⟨none,cap,hv,(fun e=>by cases e),fun _=>rfl,h3,h4,h5⟩,trivial⟩
  |some ad=>exact h1.2 B [v] hF hi ⟨⟨some ad,cap,hv,fun _ e=>(by cases e),(fun e=>by cases e),h3,h4,h5⟩,trivial⟩
 |[],hr=>exact hr.elim
 |_::_::_,hr=>exact hr.2.elim
section
variable {B:Base} {N:Nat} {L:List Nat} {st:St}
theorem jQ.M0 {p q b b' E esz n:Nat} {el:Nat→Nat→DV} {E0:TypeId} {cs:List CV} {nn:Bool} {len:Nat} (hp:get st.heap p=some (some (.cells E0 cs))) (hq:cs[q]? =some (.own b nn len)) (hb:get st.heap b=some (some (.arr E esz n el))) (hb':get st.heap b'=none):
  jQ B N L st ⟨st.slots,(p,some (.cells E0 (cs.set q (.own b' nn len))))::(b',some (.arr E esz n el))::(b,none)::st.heap⟩:=by
 intro a w hc
 obtain⟨⟨ρ,F,hfr,⟨ft,hi⟩,hs,dn⟩,hid,sz⟩:=hc
 have hρ:=hi.fresh b' hb'
 have hpb:p≠b:=fun e=>by rw [e,hb]at hp;cases hp
 have hpb':p≠b':=fun e=>by rw [e,hb']at hp;cases hp
 have hbb':b≠b':=fun e=>by rw [e,hb']at hb;cases hb
 obtain⟨pl,hpl⟩: ∃pl,ρ b=some pl:=by
  rcases hi.obj b _ hb with⟨h,_⟩|⟨k,base,cap,h,_⟩<;>exact⟨_,h⟩
 have hu: ∀x,aP ((p,some (.cells E0 (cs.set q (.own b' nn len))))::(b',some (.arr E esz n el))::(b,none)::st.heap) x=if p=x then some (some (.cells E0 (cs.set q (.own b' nn len))))else if b'=x then some (some (.arr E esz n el))else if b=x then some none else aP st.heap x:=fun x=>by simp only [aP];rw [ay,ay,ay]
 have g:Gr ρ F w (bK ρ b' pl) F w:=⟨aO hρ,fun _ h=>h,fun _ _=>rfl⟩
 have hlive: ∀x ox,(x=p∨x=b'∨x=b)→aP ((p,some (.cells E0 (cs.set q (.own b' nn len))))::(b',some (.arr E esz n el))::(b,none)::st.heap) x=some (some ox)→(x=p∧ox= .cells E0 (cs.set q (.own b' nn len)))∨(x=b'∧ox= .arr E esz n el):=fun x ox hx hh=>by
  rw [hu]at hh
  rcases hx with rfl|rfl|rfl
  ·rw [if_pos rfl]at hh;cases hh;exact .inl ⟨rfl,rfl⟩
  ·rw [if_neg hpb',if_pos rfl]at hh;cases hh;exact .inr ⟨rfl,rfl⟩
  ·rw [if_neg hpb,if_neg (Ne.symm hbb'),if_pos rfl]at hh;cases hh
 refine⟨⟨bK ρ b' pl,F,{hfr with rho:=fun x p' e=>aO hρ x p' (hfr.rho x p' e)},⟨qo ft b' (ft b), ?_⟩,fun t' tv ht'=> ?_,dn⟩,hid,sz⟩
 ·refine hi.step g hfr (Nat.le_refl _) (fun x=>x=p∨x=b'∨x=b) (fun x ox hx hh=> ?_) (fun x ox hx hh=> ?_) (fun x ox k hx hh hf=> ?_) (fun x y ox oy k hx hy h1 h2 f1 f2=> ?_) (fun k hk=> .inl hk) fun x hh=> ?_
  ·rw [hu,if_neg (fun e=>hx (.inl e.symm)),if_neg (fun e=>hx (.inr (.inl e.symm))),if_neg (fun e=>hx (.inr (.inr e.symm)))]at hh
   exact⟨hh,fun _ _=>rfl,fun k=>by rw [gZ (fun e=>hx (.inr (.inl e)))]⟩
  ·rcases hlive x ox hx hh with⟨rfl,rfl⟩|⟨rfl,rfl⟩
   ·rw [gZ hpb']
    obtain⟨k,cap,vs,x1,x0,x2,x3⟩:=hi.obj x _ hp
    refine⟨k,cap,vs,aO hρ _ _ x1,x0,x2,aU.jP (by rw [x3.length,List.length_set]) fun j c hj=> ?_⟩
    rw [List.getElem?_set]at hj
    split at hj
    ·rename_i e;subst e
     split at hj
     ·cases hj
      obtain⟨u,hu',hr⟩:=x3.get hq
      refine⟨u,hu', ?_⟩
      rcases hr with⟨k,base,cap,e1,e2⟩|⟨e0,e1,e2,e3⟩
      ·rw [hpl]at e1;cases e1
       exact .inl ⟨k,base,cap,ax _ _,e2⟩
      ·rw [hpl]at e1;cases e1
       exact .inr ⟨e0,ax _ _,e2,e3⟩
     ·cases hj
    ·obtain⟨u,hu',hr⟩:=x3.get hj
     exact⟨u,hu',hr.gr g⟩
   ·rw [bW]
    rcases hi.obj b _ hb with⟨h,h0⟩|⟨k,base,cap,h,h1,h2⟩
    ·rw [hpl]at h;cases h;exact .inl ⟨ax _ _,h0⟩
    ·rw [hpl]at h;cases h;exact .inr ⟨k,base,cap,ax _ _,h1,h2⟩
  ·rcases hlive x ox hx hh with⟨rfl,rfl⟩|⟨rfl,rfl⟩
   ·rw [gZ hpb']at hf
    exact .inl ⟨x,_, .inl rfl,hp,hf⟩
   ·rw [bW]at hf
    exact .inl ⟨b,_, .inr (.inr rfl),hb,hf⟩
  ·rcases hlive x ox hx h1 with⟨rfl,rfl⟩|⟨rfl,rfl⟩<;>rcases hlive y oy hy h2 with⟨rfl,rfl⟩|⟨rfl,rfl⟩
   ·rfl
   ·rw [gZ hpb']at f1;rw [bW]at f2
    exact absurd (hi.dis _ _ _ _ k hp hb f1 f2) hpb
   ·rw [bW]at f1;rw [gZ hpb']at f2
    exact absurd (hi.dis _ _ _ _ k hb hp f1 f2).symm hpb
   ·rfl
  ·rw [hu]at hh
   split at hh
   ·cases hh
   ·split at hh
    ·cases hh
    ·split at hh
     ·cases hh
     ·rename_i e1 e2 e3
      have:=hi.fresh x hh
      simp only [bK];rw [if_neg (Ne.symm e2)];exact this
 ·obtain⟨v,hv,hr⟩:=hs t' tv ht'
  exact⟨v,hv,hr.gr g⟩
end
theorem KH {E esz n:Nat} {f g:Nat→Nat→DV} (h: ∀i,i<n→ ∀j,j<esz→kG (f i j) (g i j)):Fu (some (.arr E esz n f)) (some (.arr E esz n g)):=by
 rintro ρ F w S b (hr|⟨k,base,cap,x1,x0,vs,x2,x3,x4,x5,x6⟩)
 ·exact .inl hr
 ·exact .inr ⟨k,base,cap,x1,x0,vs,x2,x3,x4,x5,fun i hi j hj=>by
   obtain⟨u,hu,hr⟩:=x6 i hi j hj
   exact⟨u,hu,h i hi j hj _ _ _ hr⟩⟩
theorem Fs {α:Type} [Inhabited α] (l:List α) (k i:Nat):at' (l.drop k) i=at' l (i+k):=by
 unfold at';rw [List.getD_eq_getElem?_getD,List.getD_eq_getElem?_getD,List.getElem?_drop,Nat.add_comm]
theorem LW {α:Type} [Inhabited α] {n:Nat} (c:α→Nat→DV) (l:List α) (esz k:Nat): ∀i,i<n→ ∀j,j<esz→kG ((fun i j=>av c l (i+k) j) i j) (av c (l.drop k) i j):=fun i _ j _=> .of (by
 show c (at' l (i+k)) j=c (at' (l.drop k) i) j
 rw [Fs])
theorem kG.PY {nn oW:Option Bool} {esz len m:Nat} {f g:Nat→Nat→DV} (hl:len=m) (hn:oW=none∨oW=nn) (h: ∀i,i<len→ ∀j,j<esz→kG (f i j) (g i j)):kG (.sl nn esz len f) (.sl oW esz m g):=hl ▸ kG.sl hn h
theorem toNat_lt {i:Int} {n:Nat} (h:(0:Int)≤i∧i<(n:Int)):i.toNat<n:=by omega
def O8 (l:List (Nat × Option Ob)):CV→Bool
 | .d x=>Fx x
 | .own b _ _=>(get l b).isSome
 |_=>false
def MK (l:List (Nat × Option Ob)):Ob→Prop
 | .cells _ cs=>cs.all (O8 l)=true
 | .arr _ _ _ el=> ∀i j,Fx (el i j)=true
 |_=>False
def FX (l:List (Nat × Option Ob)):List (Nat × Option Ob)→Prop
 |[]=>True
 |(_,none)::r=>FX l r
 |(_,some o)::r=>MK l o∧FX l r
section
variable {ρ ρ':Nat→Option Pl} {F F':Nat→Prop} {w w':World} {l:List (Nat × Option Ob)}
theorem FX.get: ∀{m:List (Nat × Option Ob)},FX l m→ ∀{b:Nat} {o:Ob},Sg.get m b=some (some o)→MK l o
 |[],_,b,o,h=>by cases h
 |(b0,x)::m,hm,b,o,h=>by
  rw [ay]at h
  split at h
  ·cases h;exact hm.1
  ·cases x with
   |none=>exact FX.get (m:=m) hm h
   |some _=>exact FX.get hm.2 h
end
abbrev nS:DV:= .sl (some false) 0 0 fun _ _=> .nilp
structure RI where
 yb:List (Nat × Bool):=[]
 an:List (Nat × kV):=[]
 fr:List (Nat × Nat):=[]
def kL {α:Type} (l:List (Nat × α)):List Nat:=l.map (·.1)
def Ng (frz:List Nat) (s:St):Fin:=⟨frz,s.heap.map fun p=>(p.1,p.1)⟩
def RI.on (x:RI) (frz:List Nat) (s:St):z8:={yb:=Qh x.yb,an:=P6 x.an,fr:=Lu x.fr,fin:=Ng frz s,ts:=kL s.slots}
def N7 (a l:List Nat):List Nat:=l.foldl (fun acc x=>bif eG x acc then acc else x::acc) a
def MV:List Oper→Nat→List (Nat × List Nat)→List (Nat × List Nat)
 |[],_,acc=>acc
 |o::os,i,acc=>MV os (i+1) ((i,o.after.toList.foldl (fun x e=>bif Region.binds .any e then N7 (N7 x [e.on]) (match get acc e.on with|some l=>l|none=>[])else x) [])::acc)
def O9 (ops:Array Oper):List (Nat × List Nat):=MV ops.toList 0 []
section
variable {rd:Option Nat} {P:Program} {B:Base} {N:Nat} {L:List Nat} {T:List (Nat × TI)} {Q:Exit→St→Prop} {st st':St} {id:Nat} {ops:Array Oper} {y:Code}
theorem rg (hT:lD P T) (s:St) (cs:List Prop) (x:RI) (frz:List Nat) (hc:All cs) (hQ:Q .normal s) (he:FD (DW P) T ops N L (x.on frz s) st=some (cs,s):=by kernel_rfl):jy rd P B N L (.region id ops false) Q st:=
 Fq hT s _ he hc .refl hQ
theorem sz (hT:lD P T) (s:St) (x:RI) (frz:List Nat) (hQ:jy rd P B N L y Q s) (he:FD (DW P) T ops N L (x.on frz s) st=some ([],s):=by kernel_rfl):jy rd P B N L (.seq (.region id ops false) y) Q st:=
 uO (Fq hT s _ he trivial .refl hQ)
theorem fz (s:St) (frz:List Nat) (he:finish L (Ng frz s) (kL s.slots) [] (qN st)=some ([],s):=by kernel_rfl):jQ B N L st s:=jQ.fin _ _ he trivial
def wV {α:Type} (t:Nat) (v:α):List (Nat × α)→List (Nat × α)
 |[]=>[]
 |(k,x)::l=>bif Nat.beq k t then(k,v)::l else(k,x)::wV t v l
theorem Ag {α:Type} {t:Nat} {v:α}: ∀{l:List (Nat × α)} {n:Nat} {x:α},get (wV t v l) n=some x→(n=t∧x=v∧(get l t).isSome)∨get l n=some x
 |[],n,x,h=>by simp [wV,get]at h
 |(k,y)::l,n,x,h=>by
  unfold wV at h
  cases e:Nat.beq k t with
  |true=>
   have:=Nat.eq_of_beq_eq_true e
   subst this
   simp only [e,cond_true,ay]at h
   split at h
   ·rename_i hk;cases h;left;exact⟨hk.symm,rfl,by simp [ay]⟩
   ·rename_i hk;right;rw [ay,if_neg hk];exact h
  |false=>
   simp only [e,cond_false,ay]at h
   have hkt:k≠t:=fun q=>by subst q;simp at e
   split at h
   ·rename_i hk;right;rw [ay,if_pos hk];exact h
   ·rename_i hk
    rcases Ag h with⟨h1,h2,h3⟩|h1
    ·left;exact⟨h1,h2,by rw [ay,if_neg hkt];exact h3⟩
    ·right;rw [ay,if_neg hk];exact h1
theorem Dq {b:Nat} {x y:Option Ob} (h:Fu x y): ∀{l:List (Nat × Option Ob)},get l b=some x→oz l (wV b y l)
 |[],e=>by cases e
 |(k,z)::l,e=>by
  unfold wV
  rw [ay]at e
  by_cases hk:k=b
  ·subst hk
   rw [if_pos rfl]at e;cases e
   simp only [Nat.beq_refl,cond_true]
   exact⟨rfl,h,oz.refl l⟩
  ·rw [if_neg hk]at e
   have:Nat.beq k b=false:=kX hk
   simp only [this,cond_false]
   exact⟨rfl,Fu.refl z,Dq h e⟩
theorem us (t:Nat) (y:TV) {x:TV} (he:get st.slots t=some x) (h:vo x y):jQ B N L st ⟨wV t y st.slots,st.heap⟩:=by
 intro a w hc
 obtain⟨⟨ρ,F,hfr,hhi,hs,dn⟩,hid,sz⟩:=hc
 refine⟨⟨ρ,F,hfr,hhi,fun t' tv ht=> ?_,dn⟩,hid,sz⟩
 rcases Ag ht with⟨rfl,rfl,_⟩|h1
 ·obtain⟨v,hv,hr⟩:=hs _ _ he
  exact⟨v,hv,h _ _ _ _ hr⟩
 ·exact hs _ _ h1
theorem uh (b:Nat) (y:Option Ob) {x:Option Ob} (he:get st.heap b=some x) (h:Fu x y):jQ B N L st ⟨st.slots,wV b y st.heap⟩:=by
 intro a w hc
 obtain⟨⟨ρ,F,hfr,hhi,hs,dn⟩,hid,sz⟩:=hc
 exact⟨⟨ρ,F,hfr,hhi.le (Dq h he),hs,dn⟩,hid,sz⟩
theorem cf {c:Operand} {x:Code} {b:Bool} (hb:b=false) (h:jy rd P B N L y Q st) (he:uV st c=some (.v (.one (.d (.bool b)))):=by kernel_rfl):jy rd P B N L (.cond c x y) Q st:=
 p8 b he (fun hn=>absurd (hb.symm.trans hn) Bool.noConfusion) fun _=>h
theorem ck {c:Operand} {x:Code} (h:jy rd P B N L x Q st) (he:uV st c=some (.v (.one (.d (.bool true)))):=by kernel_rfl):jy rd P B N L (.cond c x y) Q st:=
 p8 true he (fun _=>h) fun hn=>Bool.noConfusion hn
theorem cn {c:Operand} {x:Code} (h:jy rd P B N L y Q st) (he:uV st c=some (.v (.one (.d (.bool false)))):=by kernel_rfl):jy rd P B N L (.cond c x y) Q st:=
 p8 false he (fun hn=>Bool.noConfusion hn) fun _=>h
theorem oi {α:Type} {a b:α} (h:some a=some b):a=b:=Option.some.inj h
end
theorem rl {T:List (Nat × TI)} {rs:List ResultVar} {res:TV} {hout:List (Nat × Option Ob)} {st:St} (l:List SV) (h1:Cu T st rs=some ([],l):=by kernel_rfl) (h2:Ez l=res:=by kernel_rfl) (h3:st.heap=hout:=by kernel_rfl):Gx T rs res hout .ret st:=
 ⟨.inr rfl,⟨[],l,h1,trivial,h2 ▸ vo.refl _⟩,h3 ▸ oz.refl _⟩
end Sg

namespace Sg
open Go Go.ChangeShapes Go.WideShapes Go.RowKit Go.Deep
def pG (w:World) (k:Nat):Prop:=k<w.heap.size
theorem Fg {w:World} {k off:Nat} {u:Value} (h:w.cell? ⟨k,off,none⟩=some u):k<w.heap.size:=by
 unfold World.cell? at h
 cases e:w.heap[k]? with
 |none=>simp [e]at h
 |some o=>exact(Array.getElem?_eq_some_iff.mp e).1
theorem cell_spot {w:World} {a:Addr} {u:Value} (h:w.cell? a=some u):a.spot=none:=by
 unfold World.cell? at h
 cases e:a.spot with
 |none=>rfl
 |some s=>
  split at h
  ·simp [e]at h
  ·cases h
structure Rd (P:Program) (t:TypeId) (n:Nat) {α:Type} (c:α→Nat→DV) (S:α→Prop):Prop where
 size:P.cellsOf t=n
 rd: ∀{H:Type} {enc:TypeId × Value→H} {w:World} {fuel:Nat} {cs:List Value} {x:DataW H × List MemPlace},DataW.trod enc P w 0 (fun _=>true) true fuel t cs=some x→
  ∃a:α,S a∧cs.length=n∧ ∀j,j<n→ ∃u,cs[j]? =some u∧aR (pG w) w (c a j) u
section
variable {P:Program} {t e:TypeId}
theorem Rd.int (ht:P.underlying t=some (.int .i64)) (hs:P.cellsOf t=1):Rd P t 1 (aG .i64) (fun n=> -9223372036854775808≤n∧n≤9223372036854775807):=by
 refine⟨hs,fun h=> ?_⟩
 obtain⟨n,rfl,_,hw⟩:=DataW.trod_int ht h
 refine⟨n,by simpa [Lit.wf,IntKind.min,IntKind.max,IntKind.signed,IntKind.bits]using hw,rfl,fun j hj=> ?_⟩
 have:j=0:=by omega
 subst this;exact⟨_,rfl,rfl⟩
theorem Rd.bool (ht:P.underlying t=some .bool) (hs:P.cellsOf t=1):Rd P t 1 af (fun _=>True):=by
 refine⟨hs,fun h=> ?_⟩
 obtain⟨b,rfl,_⟩:=DataW.trod_bool ht h
 refine⟨b,trivial,rfl,fun j hj=> ?_⟩
 have:j=0:=by omega
 subst this;exact⟨_,rfl,rfl⟩
open Classical in
theorem Rd.slice {n:Nat} {α:Type} [Inhabited α] {c:α→Nat→DV} {S:α→Prop} (ht:P.underlying t=some (.slice e)) (hs:P.cellsOf t=1) (hn:0<n) (he:Rd P e n c S):Rd P t 1 (Lf n c) (fun l=>l.length≤9223372036854775807∧ ∀x∈l,S x):=by
 refine⟨hs,fun{H enc w fuel cs x} h=> ?_⟩
 rcases open_slice ht h with⟨rfl,_⟩|⟨a,len,cap,m,fu,D,Pl,rfl,hb,hl,hm,hmm,_,hx⟩
 ·refine⟨[],⟨by simp,by simp⟩,rfl,fun j hj=> ?_⟩
  have:j=0:=by omega
  subst this
  exact⟨_,rfl,none,0,rfl,by simp,by simp,by simp,Nat.le_refl _,by simp⟩
 ·simp only [if_true]at hmm
  subst hmm
  have hel: ∀i,i<m→ ∃y:α,S y∧ ∀j,j<n→a.spot=none∧ ∃u,w.cell? ⟨a.block,a.off+(i*n+j),none⟩=some u∧aR (pG w) w (c y j) u:=by
   intro i hi
   obtain⟨cs',h1,h2⟩:=hx i hi
   rw [he.size]at h1
   obtain⟨y,hy,hlen,hc⟩:=he.rd h2
   obtain⟨_,hcl,hat⟩:=World.cells?_some h1
   obtain⟨cs0,h10,h20⟩:=hx 0 (by omega)
   rw [he.size]at h10
   obtain⟨y0,_,hlen0,hc0⟩:=he.rd h20
   obtain⟨_,_,hat0⟩:=World.cells?_some h10
   obtain⟨u0,hu0,_⟩:=hc0 0 hn
   have hsp:a.spot=none:=by
    have:=(hat0 0 hn).trans hu0
    simp only [Nat.zero_mul]at this
    have h3:=cell_spot this
    simpa [Addr.add]using h3
   refine⟨y,hy,fun j hj=> ⟨hsp, ?_⟩⟩
   obtain⟨u,hu,hr⟩:=hc j hj
   refine⟨u, ?_,hr⟩
   have:=(hat j hj).trans hu
   rw [ko hsp,ko rfl]at this
   rw [←this];simp only [Nat.add_assoc]
  let pick:Nat→α:=fun i=>if h:i<m then Classical.choose (hel i h)else default
  have hpick: ∀i,i<m→S (pick i)∧ ∀j,j<n→a.spot=none∧ ∃u,w.cell? ⟨a.block,a.off+(i*n+j),none⟩=some u∧aR (pG w) w (c (pick i) j) u:=by
   intro i hi
   show S (dite _ _ _)∧_
   simp only [pick,dif_pos hi]
   exact Classical.choose_spec (hel i hi)
  let l:List α:=(List.range len).map pick
  have hll:l.length=len:=by simp [l]
  have hat: ∀i,i<len→at' l i=pick i:=fun i hi=>by simp [at',l,hi]
  refine⟨l,⟨by rw [hll];exact Nat.le_trans (Nat.le_trans hl hm) (by decide),fun x hx=> ?_⟩,rfl,fun j hj=> ?_⟩
  ·obtain⟨i,hi,rfl⟩:=List.mem_map.mp hx
   exact(hpick i (Nat.lt_of_lt_of_le (List.mem_range.mp hi) hl)).1
  ·have:j=0:=by omega
   subst this
   refine⟨_,rfl,some a,m, ?_,by simp,by simp,by simp,by rw [hll];exact hl,fun ad ha=> ?_⟩
   ·simp [hll]
   ·cases ha
    refine⟨fun h0=> ?_,fun i hi j hj=> ?_⟩
    ·exact((hpick 0 (by omega)).2 0 hn).1
    ·rw [hll]at hi
     obtain⟨_,u,hu,hr⟩:=(hpick i (by omega)).2 j hj
     exact⟨Fg hu,u,hu,by show aR _ _ (c (at' l i) j) u;rw [hat i hi];exact hr⟩
theorem wM {n off:Nat} {α:Type} {c:α→Nat→DV} {w:World} {cs:List Value} {a:α} (h: ∀j,j<n→ ∃u,((cs.drop off).take n)[j]? =some u∧aR (pG w) w (c a j) u):
  ∀j,j<n→ ∃u,cs[off+j]? =some u∧aR (pG w) w (c a j) u:=by
 intro j hj
 obtain⟨u,hu,hr⟩:=h j hj
 rw [List.getElem?_take_of_lt hj,List.getElem?_drop]at hu
 exact⟨u,hu,hr⟩
theorem Rd.fields {fs:Array Field} {n:Nat} (ht:P.underlying t=some (.struct fs)) (hs:P.cellsOf t=n) {H:Type} {enc:TypeId × Value→H} {w:World} {fuel:Nat} {cs:List Value} {x:DataW H × List MemPlace}
  (h:DataW.trod enc P w 0 (fun _=>true) true fuel t cs=some x):cs.length=n∧ ∀(i:Nat) (f:Field),fs[i]? =some f→ ∃y,DataW.trod enc P w 0 (fun _=>true) true (fuel - 1) f.type ((cs.drop f.offset).take (P.cellsOf f.type))=some y:=by
 obtain⟨xs,m,rfl,_,hl,hxl,hf⟩:=DataW.trod_struct ht h
 refine⟨by rw [hl,hs],fun i f hi=> ?_⟩
 have hlt:=(Array.getElem?_eq_some_iff.mp hi).1
 have:=hf i f hi
 rw [List.getElem?_eq_getElem (by omega)]at this
 exact⟨_,this⟩
theorem Rd.field {n off:Nat} {α:Type} {c:α→Nat→DV} {S:α→Prop} (he:Rd P e n c S) {H:Type} {enc:TypeId × Value→H} {w:World} {fuel:Nat} {cs:List Value}
  (h: ∃y,DataW.trod enc P w 0 (fun _=>true) true fuel e ((cs.drop off).take (P.cellsOf e))=some y): ∃a:α,S a∧ ∀j,j<n→ ∃u,cs[off+j]? =some u∧aR (pG w) w (c a j) u:=by
 obtain⟨y,hy⟩:=h
 rw [he.size]at hy
 obtain⟨a,ha,hl,hc⟩:=he.rd hy
 exact⟨a,ha,wM hc⟩
theorem Rd.elems {m n:Nat} (ht:P.underlying t=some (.array m e)) (hs:P.cellsOf t=n) {H:Type} {enc:TypeId × Value→H} {w:World} {fuel:Nat} {cs:List Value} {x:DataW H × List MemPlace}
  (h:DataW.trod enc P w 0 (fun _=>true) true fuel t cs=some x):cs.length=n∧ ∀(i:Nat),i<m→ ∃y,DataW.trod enc P w 0 (fun _=>true) true (fuel - 1) e ((cs.drop (i*P.cellsOf e)).take (P.cellsOf e))=some y:=by
 obtain⟨xs,q,rfl,_,hl,hxl,hf⟩:=DataW.trod_array ht h
 refine⟨by rw [hl,hs],fun i hi=> ?_⟩
 have:=hf i hi
 rw [List.getElem?_eq_getElem (by omega)]at this
 exact⟨_,this⟩
end
section
variable {P:Program} {t:TypeId}
theorem Rd.agg {n:Nat} {α:Type} {c:α→Nat→DV} {S:α→Prop} (hr:Rd P t n c S) {fs:Array Field} (ht:P.underlying t=some (.struct fs)) {W:World} {b0:Nat} {v:Value} (hv:Value.okWide P W .any b0 t v)
  {H:Type} {enc:TypeId × Value→H} {d:DataW H} {ps:List MemPlace} (h:DataW.Trod enc P W 0 (fun _=>true) true t v d ps):
  ∃a:α,S a∧dM (fun _=>none) (pG W) W (.agg ((List.range n).map fun j=> .d (c a j))) v:=by
 obtain⟨cs,rfl,hsz⟩:=okWide_struct ht hv
 obtain⟨fuel,hf⟩:=h
 obtain⟨a,ha,hl,hc⟩:=hr.rd hf
 refine⟨a,ha,cs.toList,by simp,aU.jP (by rw [List.length_map,List.length_range];exact hl) fun j x hx=> ?_⟩
 have hj:j<n:=by
  have:=(List.getElem?_eq_some_iff.mp hx).1
  simpa using this
 obtain⟨u,hu,hru⟩:=hc j hj
 refine⟨u,hu, ?_⟩
 simp [hj]at hx
 subst hx
 exact hru
theorem Rd.one {α:Type} {c:α→Nat→DV} {S:α→Prop} (hr:Rd P t 1 c S) {W:World} {v:Value} (hv:v.cells.toList=[v])
  {H:Type} {enc:TypeId × Value→H} {d:DataW H} {ps:List MemPlace} (h:DataW.Trod enc P W 0 (fun _=>true) true t v d ps): ∃a:α,S a∧dM (fun _=>none) (pG W) W (.one (.d (c a 0))) v:=by
 obtain⟨fuel,hf⟩:=h
 rw [hv]at hf
 obtain⟨a,ha,hl,hc⟩:=hr.rd hf
 obtain⟨u,hu,hru⟩:=hc 0 (by omega)
 simp at hu;subst hu
 exact⟨a,ha,hru⟩
theorem Gn {f:FuncId} {args:List SV} {W:World} {vs:List Value} (h:Fn P f args [] (vB true) []) (hr:bY (fun _=>none) (pG W) W args vs) (hg:GL (pG W) W):
  Calls P f vs.toArray W fun e W'=>e= .returned (.bool true)∧Below W.heap.size W W':=by
 refine(h.2 ⟨W,fun _=>none,pG W,(fun _=>False),0⟩ vs (fun _ h=>h) ⟨fun _ _=>False, ?_⟩ hr).mono fun e W' hh=> ?_
 ·exact⟨fun b ob h=>(by cases h),fun b ob k h=>(by cases h),fun b b' ob ob' k h=>(by cases h),fun _ _=>rfl,hg⟩
 ·obtain⟨v,ρ',F',he,fr,_,hv⟩:=hh
  have hv':v= .bool true:=hv
  subst hv'
  exact⟨he,fr.os,fr.tape,fr.output,fr.size,fun k hk=>fr.mem k hk fun q=>q⟩
theorem qX {H:Type} {enc:TypeId × Value→H} (hl:laidOutB P=true) {W W':World} (hb:Below W.heap.size W W') {sp:Nat→Bool}: ∀{ts:List TypeId} {vs:List Value} {ds:List (DataW H)} {ps:List MemPlace},
  DataW.TrodAll enc P W 0 (fun _=>true) true ts vs ds ps→(∀t∈ts,P.readableRec t=true∧t<P.types.size)→(∀q∈ps,q.block<W.heap.size)→(∀q∈ps,sp q.block=true)→DataW.TrodAll enc P W' 0 sp true ts vs ds ps
 |[],vs,ds,ps,h,_,_,_=>by
  obtain⟨rfl,rfl,rfl⟩:=trodAll_nil h;rfl
 |t::ts,vs,ds,ps,h,hr,hlt,hsp=>by
  obtain⟨v,vs',d,ds',p,q,rfl,rfl,rfl,h0,h1⟩:=trodAll_cons h
  have ht:=hr t List.mem_cons_self
  exact trodAll_cons_mk (WideElems.Trod_stays hl ht.1 ht.2 h0 (fun x hx=>hb.same (hlt x (List.mem_append_left _ hx))) (fun x hx=>hsp x (List.mem_append_left _ hx)))
   (qX hl hb h1 (fun t ht=>hr t (List.mem_cons_of_mem _ ht)) (fun x hx=>hlt x (List.mem_append_right _ hx)) (fun x hx=>hsp x (List.mem_append_right _ hx)))
theorem Ij {H:Type} {enc:TypeId × Value→H} {f:Func} {s:ChangeSpec} {W W':World} {args:Array Value} {ds gs:List (DataW H)} {before:List MemPlace} {t4:TypeId} (hs:s.vars=[])
  (hW:DataW.Whole enc P f.params.toList s.vars false W args.toList ds gs before) (h1:(s.fn H (ds++gs)).results=[.lit (.bool true)]) (h2:(s.fn H (ds++gs)).args=ds) (h3:(s.fn H (ds++gs)).vars=[])
  (hr:f.resultTypes= #[t4]) (h4:P.underlying t4=some .bool) (hl:laidOutB P=true) (hread: ∀t∈f.params.toList,P.readableRec t=true∧t<P.types.size) (hb:Below W.heap.size W W'):
  s.post enc P f false true false false W args (.bool true) W':=by
 have hlt:=hW.lt
 have hW':=hW
 obtain⟨p,q,hA,hV,rfl,_,_⟩:=hW
 rw [hs]at hV
 obtain⟨_,rfl⟩:=trodVars_none hV
 rw [List.append_nil]at hW' hlt
 refine⟨ds,gs,p,[],p,[],hW', ?_, ?_, ?_,hb.frame _,fun h=>by cases h⟩
 ·rw [h1,hr]
  exact trodAll_cons_mk (p:=[]) (p':=[]) (shut_bool h4 true) trodAll_mk0
 ·rw [h2]
  exact qX hl hb hA hread (fun x hx=>hlt x hx) (fun x hx=>by simpa using hlt x hx)
 ·rw [hs,h3];rfl
end
end Sg

namespace Sg
open Go Go.ChangeMaps
section
variable {P:Program} {B:Base} {N:Nat} {L:List Nat} {st:St} {rd:Option Nat}
theorem qA {ops:Array Oper} {Q:Exit→Act→World→Prop} {i:Nat} {o:Oper} {a:Act} {w w':World} {v:Value} {K:Act→World→Prop} (ho:ops[i]? =some o) (hg:o.guard=none) (hrun:(execOp a.eval o).run P w= .ok (.value v) w') (hK:K (a.put o.dst v) w'):wpOpIn (FW rd) 0 P ops Q i K a w:=by
 unfold wpOpIn
 rw [ho]
 simp only [Region.wanted,hg,if_true]
 refine lS rd (iF hrun (fun _ h=>by cases h)) ?_
 simp only [Oper.wp,hrun,Oper.upon]
 exact hK
theorem vF {ρ:Nat→Option Pl} {F:Nat→Prop} {w:World} {sl:List (Nat × TV)} {a:Act} {d:Nat} {tv:TV} {v:Value} (hs: ∀t tv,get sl t=some tv→ ∃v,a.tmps[t]? =some v∧aW ρ F w tv v) (hd:d<a.tmps.size) (hr:aW ρ F w tv v):
  ∀t tv',get ((d,tv)::sl) t=some tv'→ ∃v',(a.put (some d) v).tmps[t]? =some v'∧aW ρ F w tv' v':=by
 intro t tv' ht
 rw [ay]at ht
 split at ht
 ·rename_i e;subst e;cases ht
  exact⟨v,by simp [Act.put,hd],hr⟩
 ·rename_i e
  obtain⟨u,hu,hr'⟩:=hs t tv' ht
  exact⟨u,by simp only [Act.put];rw [Array.getElem?_setIfInBounds_ne e];exact hu,hr'⟩
theorem Dp {a:Act} {d:Nat} {v:Value} (h:d<a.tmps.size):(a.put (some d) v).eval (.tmp d)=v:=by simp [Act.eval,Act.put,h]
structure It (B:Base) (N:Nat) (L:List Nat) (st:St) (it kit km:Nat) (es:Array MapEntry) (seen:Array Nat) (a:Act) (w:World):Prop where
 ex: ∃ρ F ft,Fr B ρ F w∧mq B ρ F w (aP st.heap) ft∧(∀t tv,get st.slots t=some tv→ ∃v,a.tmps[t]? =some v∧aW ρ F w tv v)∧Marks B F w a.defers∧ρ it=some (.blk kit 0 0)∧
  ∀k,k=kit∨k=km→ ¬ F k∧ ∀b ob,aP st.heap b=some (some ob)→ ¬ ft b k
 ids: ∀b p,B.ρ b=some p→b∈L
 sz:a.tmps.size=N
 bit:B.w.heap.size≤kit
 itx:w.heap[kit]? =some (.mapIter (some km) es.size seen es.size)
 mpx:w.heap[km]? =some (.map es es.size)
theorem lt_of_heap {w:World} {k:Nat} {o:Obj} (h:w.heap[k]? =some o):k<w.heap.size:=(Array.getElem?_eq_some_iff.1 h).1
theorem It.base {it kit km:Nat} {es:Array MapEntry} {seen:Array Nat} {a:Act} {w:World} (h:It B N L st it kit km es seen a w):
  ∃B',Conc B' N (it::L) st a w∧ ∀st' a' w',Conc B' N (it::L) st' a' w'→It B N L st' it kit km es seen a' w':=by
 obtain⟨⟨ρ,F,ft,fr,hi,hs,dn,hit,hK⟩,ids,sz,bit,itx,mpx⟩:=h
 have lk: ∀k,k=kit∨k=km→k<w.heap.size:=fun k hk=>hk.elim (fun e=>e ▸ lt_of_heap itx) (fun e=>e ▸ lt_of_heap mpx)
 let B':Base:=⟨w,(fun x=>if x=it then some (.blk kit 0 0)else B.ρ x),F,(fun k=> ∃b ob,aP st.heap b=some (some ob)∧ft b k),B.mb⟩
 have nK: ∀k,k=kit∨k=km→ ¬ B'.Ft k:=fun k hk ⟨b,ob,h1,h2⟩=>(hK k hk).2 b ob h1 h2
 refine⟨B',⟨⟨ρ,F,⟨rfl,rfl, .refl _,Nat.le_refl _,fun _ _ _=>rfl,fun b p e=> ?_,fun k hk=> ⟨(fr.fz k hk).1, .inl hk⟩,fun _ h=>h⟩,⟨ft,hi.obj,fun b ob k hb hf=> ⟨(hi.blk b ob k hb hf).1,(hi.blk b ob k hb hf).2.1, .inl ⟨b,ob,hb,hf⟩⟩,hi.dis,hi.fresh,hi.gl⟩,hs, ?_⟩,fun b p e=> ?_,sz⟩, ?_⟩
 ·by_cases hb:b=it
  ·subst hb
   have e:(if b=b then some (.blk kit 0 0)else B.ρ b)=some p:=e
   rw [if_pos rfl]at e
   rw [hit,e]
  ·have e:(if b=it then some (.blk kit 0 0)else B.ρ b)=some p:=e
   rw [if_neg hb]at e
   exact fr.rho b p e
 ·obtain⟨d0,Ds,d1,d2,d3⟩:=dn
  exact⟨Nat.le_trans d0 fr.size,Ds,d1,d2,d3⟩
 ·by_cases hb:b=it
  ·subst hb;exact List.mem_cons_self
  ·have e:(if b=it then some (.blk kit 0 0)else B.ρ b)=some p:=e
   rw [if_neg hb]at e
   exact List.mem_cons_of_mem _ (ids b p e)
 ·rintro st' a' w' ⟨⟨ρ',F',fr',⟨ft',hi'⟩,hs',dn'⟩,_,sz'⟩
  have inB: ∀k,(B'.Ft k∨w.heap.size≤k)→B.Ft k∨B.w.heap.size≤k:=fun k hk=>by
   rcases hk with⟨b,ob,h1,h2⟩|hk
   ·exact(hi.blk b ob k h1 h2).2.2
   ·exact .inr (Nat.le_trans fr.size hk)
  have hit':ρ' it=some (.blk kit 0 0):=fr'.rho it _ (if_pos rfl)
  have hmem: ∀k,k=kit∨k=km→w'.heap[k]? =w.heap[k]? :=fun k hk=>fr'.mem k (lk k hk) (nK k hk)
  refine⟨⟨ρ',F',ft',⟨fr'.os.trans fr.os,fr'.tape.trans fr.tape,fr'.output.trans fr.output,Nat.le_trans fr.size fr'.size,fun k hk hn=> ?_,fun b p e=> ?_,fun k hk=> ?_,fun k hk=>fr'.bf k (fr.bf k hk)⟩,⟨hi'.obj,fun b ob k hb hf=> ?_,hi'.dis,hi'.fresh,hi'.gl⟩,hs', ?_,hit',fun k hk=> ⟨fun hf=> ?_,fun b ob hb hf=> ?_⟩⟩,ids,sz',bit,(hmem _ (.inl rfl)).trans itx,(hmem _ (.inr rfl)).trans mpx⟩
  ·refine(fr'.mem k (Nat.lt_of_lt_of_le hk fr.size) fun⟨b,ob,h1,h2⟩=> ?_).trans (fr.mem k hk hn)
   rcases(hi.blk b ob k h1 h2).2.2 with h|h
   ·exact hn h
   ·omega
  ·apply fr'.rho
   show(if b=it then some (.blk kit 0 0)else B.ρ b)=some p
   by_cases hb:b=it
   ·subst hb
    have:=fr.rho b p e
    rw [if_pos rfl,←hit,this]
   ·rw [if_neg hb];exact e
  ·obtain⟨x1,x2⟩:=fr'.fz k hk
   refine⟨x1, ?_⟩
   rcases x2 with x2|x2
   ·exact(fr.fz k x2).2
   ·exact .inr (inB k x2)
  ·obtain⟨x1,x2,x3⟩:=hi'.blk b ob k hb hf
   exact⟨x1,x2,inB k x3⟩
  ·obtain⟨_,Ds,d1,d2,d3⟩:=dn'
   exact⟨dn.1,Ds,d1,d2,d3⟩
  ·have:=lk k hk
   rcases(fr'.fz k hf).2 with x|x|x
   ·exact(hK k hk).1 x
   ·exact nK k hk x
   ·exact absurd x (by show ¬ w.heap.size≤k;omega)
  ·have:=lk k hk
   rcases(hi'.blk b ob k hb hf).2.2 with x|x
   ·exact nK k hk x
   ·exact absurd x (by show ¬ w.heap.size≤k;omega)
theorem It.put {it kit km:Nat} {es:Array MapEntry} {seen:Array Nat} {a:Act} {w:World} (h:It B N L st it kit km es seen a w) {d:Nat} {tv:TV} {v:Value} (hd:d<N) (hr: ∀ρ F w,aW ρ F w tv v):
  It B N L ⟨(d,tv)::st.slots,st.heap⟩ it kit km es seen (a.put (some d) v) w:=by
 obtain⟨⟨ρ,F,ft,fr,hi,hs,dn,hit,hK⟩,ids,sz,bit,itx,mpx⟩:=h
 exact⟨⟨ρ,F,ft,fr,hi,vF hs (by omega) (hr _ _ _),dn,hit,hK⟩,ids,by simp [Act.put,sz],bit,itx,mpx⟩
theorem It.turn {it kit km:Nat} {es:Array MapEntry} {seen seen':Array Nat} {a:Act} {w w':World} (h:It B N L st it kit km es seen a w) (ho:w'.os=w.os) (ht:w'.tape=w.tape) (hp:OD w' w)
  (hh:w'.heap=w.heap.setIfInBounds kit (.mapIter (some km) es.size seen' es.size)):It B N L st it kit km es seen' a w':=by
 obtain⟨⟨ρ,F,ft,fr,hi,hs,dn,hit,hK⟩,ids,sz,bit,itx,mpx⟩:=h
 have hlt:=lt_of_heap itx
 have hold: ∀k,k≠kit→w'.heap[k]? =w.heap[k]? :=fun k hk=>by rw [hh,Array.getElem?_setIfInBounds_ne (Ne.symm hk)]
 have hsz:w'.heap.size=w.heap.size:=by rw [hh,Array.size_setIfInBounds]
 have hkk:km≠kit:=fun e=>by subst e;rw [itx]at mpx;cases mpx
 have g:Gr ρ F w ρ F w':=⟨fun _ _ h=>h,fun _ h=>h,fun k hk=>hold k fun e=>(hK kit (.inl rfl)).1 (e ▸ hk)⟩
 refine⟨⟨ρ,F,ft,⟨ho.trans fr.os,ht.trans fr.tape,hp.trans fr.output,by rw [hsz];exact fr.size,fun k hk hn=>(hold k (by omega)).trans (fr.mem k hk hn),fr.rho,fun k hk=> ⟨by rw [hsz];exact(fr.fz k hk).1,(fr.fz k hk).2⟩,fr.bf⟩,
  ⟨fun b ob hb=>(hi.obj b ob hb).keep g (fun _ h=>h) fun k hk=>hold k fun e=>(hK kit (.inl rfl)).2 b ob hb (e ▸ hk),fun b ob k hb hf=> ⟨by rw [hsz];exact(hi.blk b ob k hb hf).1,(hi.blk b ob k hb hf).2⟩,hi.dis,hi.fresh,hi.gl.gr g⟩,
  fun t tv h=> ?_,dn.gr g,hit,hK⟩,ids,sz,bit,by rw [hh];simp [hlt],by rw [hold km hkk];exact mpx⟩
 obtain⟨v,hv,hr⟩:=hs t tv h
 exact⟨v,hv,hr.gr g⟩
theorem It.eval {it kit km:Nat} {es:Array MapEntry} {seen:Array Nat} {a:Act} {w:World} (h:It B N L st it kit km es seen a w) {t:Nat} (hsl:get st.slots t=some (.v (.one (.ptr it 0)))):a.eval (.tmp t)= .pointer (some ⟨kit,0,none⟩):=by
 obtain⟨⟨ρ,F,ft,fr,hi,hs,dn,hit,hK⟩,_⟩:=h
 obtain⟨v,hv,k,base,cap,h1,h2⟩:=hs _ _ hsl
 rw [hit]at h1;cases h1
 simp [Act.eval,hv,h2]
structure Es (es:Array MapEntry) (n:Nat) (keyS valS:Nat→SV):Prop where
 sz:es.size=n
 at_: ∀i,i<n→ ∃e,es[i]? =some e∧e.born=i∧(∀ρ F w,dM ρ F w (keyS i) e.key)∧ ∀ρ F w,dM ρ F w (valS i) e.val
theorem Es.born {es:Array MapEntry} {n:Nat} {keyS valS:Nat→SV} (h:Es es n keyS valS):es.toList.map (·.born)=List.range n:=by
 apply List.ext_getElem?
 intro i
 rw [List.getElem?_map,Array.getElem?_toList]
 by_cases hi:i<n
 ·obtain⟨e,h1,h2,_⟩:=h.at_ i hi
  rw [h1,List.getElem?_range hi]
  simp [h2]
 ·rw [Array.getElem?_eq_none (by rw [h.sz];omega),List.getElem?_eq_none (by simp;omega)];rfl
theorem Es.mem {es:Array MapEntry} {n:Nat} {keyS valS:Nat→SV} (h:Es es n keyS valS) {e:MapEntry} (he:e∈es.toList):e.born<n∧es[e.born]? =some e:=by
 obtain⟨i,hi,rfl⟩:=List.mem_iff_getElem.1 he
 have hi2:i<n:=by rw [←h.sz];simpa using hi
 obtain⟨e',h1,h2,_⟩:=h.at_ i hi2
 have:es[i]? =some (es.toList[i]):=by rw [←Array.getElem?_toList,List.getElem?_eq_getElem hi]
 rw [this]at h1;cases h1
 rw [h2]
 exact⟨hi2,this⟩
theorem It.next {it kit km n:Nat} {keyS valS:Nat→SV} {es:Array MapEntry} {seen:Array Nat} {a:Act} {w:World} (h:It B N L st it kit km es seen a w) (hes:Es es n keyS valS)
  {o0 o1:Oper} {t2 t3 t4 id:Nat} (e0:o0.op= .next (.tmp t2) false) (g0:o0.guard=none) (d0:o0.dst=some t3) (e1:o1.op= .extract (.tmp t3) 0) (g1:o1.guard=none) (d1:o1.dst=some t4) (h3:t3<N) (h4:t4<N)
  (hsl:get st.slots t2=some (.v (.one (.ptr it 0)))) {Q:Exit→Act→World→Prop}
  (hend:(∀i,i<n→i∈seen)→ ∀a' w',It B N L ⟨(t4,vB false)::(t3, .fK [.one (.d (.bool false))])::st.slots,st.heap⟩ it kit km es seen a' w'→Q .normal a' w')
  (hmore: ∀i,i<n→i ∉ seen→ ∀a' w',It B N L ⟨(t4,vB true)::(t3, .fK [.one (.d (.bool true)),keyS i,valS i])::st.slots,st.heap⟩ it kit km es (seen.push i) a' w'→Q .normal a' w'):
  (Code.region id #[o0,o1] false).wpIn (FW rd) 0 P Q a w:=by
 refine wpIn_region ?_
 show wpOpsIn _ _ _ _ _ [0,1] a w
 have hev:=h.eval hsl
 have hbd: ∀x∈es.toList,x.born<es.size:=fun x hx=>by rw [hes.sz];exact(hes.mem hx).1
 have hput: ∀(w':World) (v:Value),(execOp (a.put (some t3) v).eval o1).run P w'=(Instr.extract v 0>>=fun v=>pure (Next.value v):Sem Next).run P w':=fun w' v=>by
  have:(a.put (some t3) v).eval (.tmp t3)=v:=by simp [Act.eval,Act.put,h.sz,h3]
  simp only [execOp,e1,this]
 rcases run_next_at (P:=P) w o0.type kit km es.size es.size seen es es.size h.itx h.mpx hbd (Nat.le_refl _)with⟨hl,hrun⟩|⟨e,he,w1,hw1,hrun⟩
 ·rw [wpOpsIn_cons]
  refine qA (o:=o0) rfl g0 (v:= .tuple #[.bool false]) (w':=w) ?_ ?_
  ·simp only [execOp,e0,hev,Sem.run_bind,hrun,Result.andThen_ok,Sem.run_pure]
  rw [wpOpsIn_cons]
  refine qA (o:=o1) rfl g1 (v:= .bool false) (w':=w) ?_ ?_
  ·rw [d0,hput];simp [Instr.extract]
  rw [d0,d1]
  refine hend (fun i hi=> ?_) _ _ ((h.put (tv:= .fK [.one (.d (.bool false))]) h3 fun ρ F w=> ⟨[.bool false],rfl,rfl,trivial⟩).put (tv:=vB false) h4 fun ρ F w=>rfl)
  obtain⟨e,q1,q2,_⟩:=hes.at_ i hi
  apply Classical.byContradiction
  intro hns
  have:e∈leftOf es seen:=by
   unfold leftOf
   rw [Array.mem_filter]
   exact⟨Array.mem_of_getElem? q1,by simp [q2,hns]⟩
  have:=Array.size_pos_of_mem this
  omega
 ·have hel:e∈es∧e.born ∉ seen:=by
   have:e∈leftOf es seen:=by simpa using he
   unfold leftOf at this
   rw [Array.mem_filter]at this
   exact⟨this.1,by simpa using this.2⟩
  obtain⟨m1,m2⟩:=hes.mem (by simpa using hel.1)
  obtain⟨e',q1,q2,q3,q4⟩:=hes.at_ _ m1
  rw [m2]at q1;cases q1
  rw [wpOpsIn_cons]
  refine qA (o:=o0) rfl g0 (v:= .tuple #[.bool true,e.key,e.val]) (w':=setBlock w1 kit (.mapIter (some km) es.size (seen.push e.born) es.size)) ?_ ?_
  ·simp only [execOp,e0,hev,Sem.run_bind,hrun,Result.andThen_ok,Sem.run_pure]
  rw [wpOpsIn_cons]
  refine qA (o:=o1) rfl g1 (v:= .bool true) (w':=setBlock w1 kit (.mapIter (some km) es.size (seen.push e.born) es.size)) ?_ ?_
  ·rw [d0,hput];simp [Instr.extract]
  rw [d0,d1]
  have h':It B N L st it kit km es (seen.push e.born) a (setBlock w1 kit (.mapIter (some km) es.size (seen.push e.born) es.size)):=by
   rcases hw1 with rfl|rfl
   ·exact h.turn rfl rfl rfl rfl
   ·exact h.turn rfl rfl rfl rfl
  exact hmore _ m1 hel.2 _ _ ((h'.put (tv:= .fK [.one (.d (.bool true)),keyS e.born,valS e.born]) h3 fun ρ F w=> ⟨[.bool true,e.key,e.val],rfl,rfl,q3 _ _ _,q4 _ _ _,trivial⟩).put (tv:=vB true) h4 fun ρ F w=>rfl)
def IY (s:SV):Prop:= ∀ρ F w ρ' F' w' v,dM ρ F w s v→dM ρ' F' w' s v
theorem It.start {a:Act} {w:World} (hc:Conc B N L st a w) {tm t1 t2 b it id:Nat} {T K V:TypeId} {m:EP} {keyS valS:Nat→SV} {o0 o1:Oper}
  (e0:o0.op= .move (.tmp tm)) (g0:o0.guard=none) (d0:o0.dst=some t1) (e1:o1.op= .range T (.tmp t1)) (g1:o1.guard=none) (d1:o1.dst=some t2) (h1:t1<N) (h2:t2<N)
  (hT:P.underlying T=some (.map K V)) (hsl:get st.slots tm=some (.v (.one (.mp b)))) (hb:get st.heap b=some (some (.map m))) (hit:get st.heap it=none)
  (hk: ∀i,i<m.len→iE m.kagg (dh (fun j=> .d (m.key i j)) 0 m.ksz)=some (keyS i)∧iE m.vagg (dh (m.val i) 0 m.vsz)=some (valS i)) (hp: ∀i,i<m.len→IY (keyS i)∧IY (valS i)) {Q:Exit→Act→World→Prop}
  (hQ: ∀es kit km a' w',Es es m.len keyS valS→It B N L ⟨(t2,vP it 0)::(t1, .v (.one (.mp b)))::st.slots,(it,none)::(b,none)::st.heap⟩ it kit km es #[] a' w'→Q .normal a' w'):
  (Code.region id #[o0,o1] false).wpIn (FW rd) 0 P Q a w:=by
 obtain⟨⟨ρ,F,fr,⟨ft,hi⟩,hs,dn⟩,ids,sz⟩:=hc
 obtain⟨v,hv,hvr⟩:=hs _ _ hsl
 have hvr':=hvr
 obtain⟨km,base,cap,hρ,rfl⟩:=hvr
 obtain⟨km',base',cap',es,r1,r2,r3,r4,r5,r6⟩:=hi.obj b _ hb
 rw [hρ]at r1;cases r1
 have hes:Es es m.len keyS valS:=⟨r4,fun i hi'=>by
  obtain⟨e,q1,q2,⟨s1,q3,q4⟩,⟨s2,q5,q6⟩⟩:=r6 i hi'
  rw [(hk i hi').1]at q3;cases q3
  rw [(hk i hi').2]at q5;cases q5
  exact⟨e,q1,q2,fun ρ' F' w'=>(hp i hi').1 _ _ _ _ _ _ _ q4,fun ρ' F' w'=>(hp i hi').2 _ _ _ _ _ _ _ q6⟩⟩
 have hitb:it≠b:=fun e=>by subst e;rw [hit]at hb;cases hb
 have hρit:ρ it=none:=hi.fresh it hit
 have hmb:=hi.blk b _ km hb r2
 refine wpIn_region ?_
 show wpOpsIn _ _ _ _ _ [0,1] a w
 rw [wpOpsIn_cons]
 have hevm:a.eval (.tmp tm)= .map (some km):=by simp [Act.eval,hv]
 refine qA (o:=o0) rfl g0 (v:= .map (some km)) (w':=w) (by simp [execOp,e0,hevm]) ?_
 rw [d0,wpOpsIn_cons]
 let w1:World:=w.alloc (.mapIter (some km) es.size #[] es.size)
 have hev1:(a.put (some t1) (.map (some km))).eval (.tmp t1)= .map (some km):=Dp (by omega)
 refine qA (o:=o1) rfl g1 (v:= .pointer (some ⟨w.heap.size,0,none⟩)) (w':=w1) ?_ ?_
 ·simp only [execOp,e1,hev1,Sem.run_bind,run_range_map w T K V km es es.size hT r3,Result.andThen_ok,Sem.run_pure];rfl
 rw [d1]
 have hsz1:w1.heap.size=w.heap.size+1:=by show(w.heap.push _).size=_;simp
 have hold: ∀k,k<w.heap.size→w1.heap[k]? =w.heap[k]? :=fun k hk=>heap_alloc_old w _ hk
 have hupd: ∀x p,ρ x=some p→bK ρ it (.blk w.heap.size 0 0) x=some p:=aO hρit
 have g:Gr ρ F w (bK ρ it (.blk w.heap.size 0 0)) F w1:=⟨hupd,fun _ h=>h,fun k hk=>hold k (fr.fz k hk).1⟩
 have hget: ∀x ob,aP ((it,none)::(b,none)::st.heap) x=some (some ob)→get st.heap x=some (some ob)∧x≠b∧x≠it:=by
  intro x ob hx
  unfold aP at hx
  rw [ay,ay]at hx
  split at hx
  ·cases hx
  ·rename_i n1
   split at hx
   ·cases hx
   ·rename_i n2;exact⟨hx,Ne.symm n2,Ne.symm n1⟩
 refine hQ es w.heap.size km _ _ hes ⟨⟨bK ρ it (.blk w.heap.size 0 0),F,ft,⟨fr.os,fr.tape,fr.output,by rw [hsz1];exact Nat.le_succ_of_le fr.size,fun k hk hn=>(hold k (Nat.lt_of_lt_of_le hk fr.size)).trans (fr.mem k hk hn),fun x p e=>hupd x p (fr.rho x p e),fun k hk=> ⟨by rw [hsz1];exact Nat.lt_succ_of_lt (fr.fz k hk).1,(fr.fz k hk).2⟩,fr.bf⟩,
  ⟨fun x ob hx=> ?_,fun x ob k hx hf=> ?_,fun x x' ob ob' k hx hx'=>hi.dis x x' ob ob' k (hget x ob hx).1 (hget x' ob' hx').1,fun x hx=> ?_,hi.gl.gr g⟩, ?_,dn.gr g,ax _ _,fun k hk=> ?_⟩,ids,by simp [Act.put,sz],fr.size,heap_alloc_new w _,by rw [hold km hmb.1];exact r3⟩
 ·exact(hi.obj x ob (hget x ob hx).1).keep g (fun _ h=>h) fun k hk=>hold k (hi.blk x ob k (hget x ob hx).1 hk).1
 ·obtain⟨y1,y2,y3⟩:=hi.blk x ob k (hget x ob hx).1 hf
  exact⟨by rw [hsz1];omega,y2,y3⟩
 ·unfold aP at hx
  rw [ay,ay]at hx
  split at hx
  ·cases hx
  ·rename_i n1
   split at hx
   ·cases hx
   ·unfold bK;rw [if_neg (Ne.symm n1)];exact hi.fresh x hx
 ·refine vF (vF (fun t tv ht=> ?_) (by omega) ?_) (by simp [Act.put];omega) ?_
  ·obtain⟨u,hu,hr⟩:=hs t tv ht
   exact⟨u,hu,hr.gr g⟩
  ·exact aW.gr g (s:= .v (.one (.mp b))) hvr'
  ·exact⟨w.heap.size,0,0,ax _ _,rfl⟩
 ·rcases hk with rfl|rfl
  ·exact⟨fun hf=>by have:=(fr.fz _ hf).1;omega,fun x ob hx hf=>by have:=(hi.blk x ob _ (hget x ob hx).1 hf).1;omega⟩
  ·exact⟨hmb.2.1,fun x ob hx hf=>(hget x ob hx).2.1 (hi.dis x b ob _ k (hget x ob hx).1 hb hf r2)⟩
theorem jQ.Ms {b c l E esz len:Nat} {el:Nat→Nat→DV} (hb:get st.heap b=some (some (.arr E esz len el))) (hc:get st.heap c=some (some (.suf b l esz))) (hl:l≤len) (hz:esz≠0):
  jQ B N L st ⟨st.slots,(c,some (.arr E esz (len - l) fun i j=>el (i+l) j))::(b,none)::st.heap⟩:=by
 rintro a w ⟨⟨ρ,F,fr,⟨ft,hi⟩,hs,dn⟩,hid,sz⟩
 have hne:c≠b:=fun e=>by rw [e,hb]at hc;cases hc
 have hu: ∀x,aP ((c,some (.arr E esz (len - l) fun i j=>el (i+l) j))::(b,none)::st.heap) x=if x=c then some (some (.arr E esz (len - l) fun i j=>el (i+l) j))else if x=b then some none else get st.heap x:=fun x=>by
  unfold aP
  rw [ay,ay]
  by_cases e1:c=x
  ·rw [if_pos e1,if_pos e1.symm]
  ·rw [if_neg e1,if_neg (Ne.symm e1)]
   by_cases e2:b=x
   ·rw [if_pos e2,if_pos e2.symm]
   ·rw [if_neg e2,if_neg (Ne.symm e2)]
 refine⟨⟨ρ,F,fr,⟨fun x k=>if x=c then ft b k else x≠b∧ft x k,hi.step (.refl _ _ _) fr (Nat.le_refl _) (fun x=>x=c∨x=b) (fun x ob hx hh=> ?_) (fun x ob hx hh=> ?_) (fun x ob k hx hh hf=> ?_) (fun x x' ob ob' k hx hx' hh hh' _ _=> ?_) (fun k hk=> .inl hk) fun x hx=> ?_⟩,hs,dn⟩,hid,sz⟩
 ·have h1:x≠c:=fun e=>hx (.inl e)
  have h2:x≠b:=fun e=>hx (.inr e)
  rw [hu,if_neg h1,if_neg h2]at hh
  exact⟨hh,fun _ _=>rfl,fun k=>by simp only [if_neg h1];exact⟨fun q=>q.2,fun q=> ⟨h2,q⟩⟩⟩
 ·rw [hu]at hh
  by_cases h1:x=c
  ·subst h1
   rw [if_pos rfl]at hh
   cases hh
   simp only [if_true]
   have hob:=hi.obj b _ hb
   have hsf:=hi.obj x _ hc
   rcases hob with⟨g1,g2⟩|⟨k,base,cap,g1,g2,vs,g3,g4,g5,g6,g7⟩
   ·rcases hsf with⟨_,s2,s3⟩|⟨k,base,cap,s1,_⟩
    ·exact .inl ⟨s2,by omega⟩
    ·rw [g1]at s1;cases s1
   ·rcases hsf with⟨s1,_,_⟩|⟨k',base',cap',s1,s2,s3⟩
    ·rw [g1]at s1;cases s1
    ·rw [g1]at s1;cases s1
     unfold uq at s3
     rw [if_neg hz]at s3
     by_cases hcap:cap=l
     ·rw [if_pos hcap]at s3
      exact .inr ⟨k,base,cap - l,s3,g2,vs,g3,by rw [show cap - l=0 by omega,Nat.zero_mul];omega,by omega,by omega,fun i hi'=>by omega⟩
     ·rw [if_neg hcap]at s3
      refine .inr ⟨k,base+l*esz,cap - l,s3,g2,vs,g3, ?_,by omega,by omega,fun i hi' j hj=> ?_⟩
      ·rw [Nat.add_assoc,←Nat.add_mul,show l+(cap - l)=cap by omega];exact g4
      ·obtain⟨u,q1,q2⟩:=g7 (i+l) (by omega) j hj
       exact⟨u,by rw [show base+l*esz+(i*esz+j)=base+((i+l)*esz+j) by rw [Nat.add_mul];omega];exact q1,q2⟩
  ·rw [if_neg h1]at hh
   rcases hx with hx|hx
   ·exact absurd hx h1
   ·rw [if_pos hx]at hh;cases hh
 ·left
  rcases hx with hx|hx
  ·subst hx
   simp only [if_true]at hf
   exact⟨b,_, .inr rfl,hb,hf⟩
  ·rw [hu,if_neg (by rw [hx];exact Ne.symm hne),if_pos hx]at hh;cases hh
 ·have one: ∀y o,y=c∨y=b→aP ((c,some (.arr E esz (len - l) fun i j=>el (i+l) j))::(b,none)::st.heap) y=some (some o)→y=c:=fun y o hy ho=>by
   rcases hy with hy|hy
   ·exact hy
   ·rw [hu,if_neg (by rw [hy];exact Ne.symm hne),if_pos hy]at ho;cases ho
  rw [one x ob hx hh,one x' ob' hx' hh']
 ·rw [hu]at hx
  split at hx
  ·cases hx
  ·split at hx
   ·cases hx
   ·exact hi.fresh x hx
theorem jQ.Lx {α:Type} [Inhabited α] {b c k E esz:Nat} {cf:α→Nat→DV} {l:List α} (hb:get st.heap b=some (some (.arr E esz l.length (av cf l)))) (hc:get st.heap c=some (some (.suf b k esz))) (hl:k≤l.length) (hz:esz≠0):
  jQ B N L st ⟨st.slots,(c,some (.arr E esz (l.length - k) (av cf (l.drop k))))::(b,none)::st.heap⟩:=by
 have h:=jQ.Ms (B:=B) (N:=N) (L:=L) hb hc hl hz
 have e:(fun i j=>av cf l (i+k) j)=av cf (l.drop k):=by
  funext i j
  show cf (at' l (i+k)) j=cf (at' (l.drop k) i) j
  rw [Fs]
 rw [e]at h
 exact h
end
def SQ (Q:Exit→St→Prop):Exit→St→Prop:=fun e st=>(∀l,e≠ .goto l)∧Q e st
section
variable {P:Program} {B:Base} {N:Nat} {L:List Nat} {st:St} {rd:Option Nat} {Q:Exit→St→Prop}
theorem El {c:Code} (h:jy rd P B N L c (SQ Q) st):jy rd P B N L (.scope c) Q st:=by
 intro a w hc b k cs hro hbu hr
 obtain⟨e,a1,w1,⟨st',⟨hng,hR⟩,hconc⟩,harr⟩:=h a w hc b (.inScope c::k) cs hro hbu hr
 have fin: ∃e a2 w2,(∃st',Q e st'∧Conc B N L st' a2 w2)∧ArrivesIn (Machine.fenced P (FW rd)) P (lone (b.atR a (.code c:: .inScope c::k)) cs w) b k cs e a2 w2:=by
  cases e with
  |normal=>exact⟨.normal,a1,w1,⟨st',hR,hconc⟩,StepsIn.trans harr (.one (fenced_calm hbu hr rfl) qW)⟩
  |exit id=>
   have hx:exitTo id (.inScope c::k)=exitTo id k:=by simp [exitTo]
   exact⟨_,a1,w1,⟨st',hR,hconc⟩,fun k' hk=>harr.1 k' (by rw [hx];exact hk),fun hr' hk=>harr.2 hr' (by rw [hx];exact hk)⟩
  |goto l'=>exact absurd rfl (hng l')
  |ret=>exact⟨_,a1,w1,⟨st',hR,hconc⟩,harr⟩
  |panic ch=>exact⟨_,a1,w1,⟨st',hR,hconc⟩,harr⟩
  |outgrown=>exact⟨_,a1,w1,⟨st',hR,hconc⟩,harr⟩
 obtain⟨e,a2,w2,hq,harr⟩:=fin
 exact⟨e,a2,w2,hq, .of_steps (.one (fenced_calm hbu hr rfl) wN) harr⟩
end
structure PP where
 p:Prop
 h:p
structure PI where
 a:Prop
 b:Prop
 h:a→b
inductive Cs where
 |u (j:Nat)
 |k (j:Nat)
 |pf (x:PP)
 |dv (j:Nat) (x:PI)
 |dk (j:Nat) (x:PI)
 |m (js:List Nat) (a:List Prop) (b:Prop) (h:All a→b)
instance (n:Nat):OfNat Cs n:=⟨.u n⟩
inductive Ck where
 |p (x:Prop)
 |b (x:Bool)
 |n (x:Nat)
 |dv (x:DV)
 |tv (x:TV)
 |co (x:List Code)
 |ob (x:Option Ob)
 |st (x:St)
 |hp (x:List (Nat × Option Ob))
abbrev CP:=List (Ck × Ck)
def CP.ok:CP→Prop
 |[]=>True
 |p::l=>p.1=p.2∧CP.ok l
theorem CP.gu: ∀{l m:CP},CP.ok (l++m)↔CP.ok l∧CP.ok m
 |[],m=>by simp [CP.ok]
 |p::l,m=>by simp [CP.ok,CP.gu,and_assoc]
inductive Ri where
 |eb (j:Nat) (a b:Bool)
 |eg (g:List (Nat × Bool)) (j:Nat) (a b:Bool)
 |cs (g:List (Nat × Bool)) (l:List Prop)
 |nd (g:List (Nat × Bool))
 |ng (g:List (Nat × Bool))
def Ri.P (yb:Nat→Bool):Ri→List Prop
 | .eb _ a b=>[a=b]
 | .eg g _ a b=>ru yb g [a=b]
 | .cs g l=>ru yb g l
 | .nd g=>[gP yb g]
 | .ng g=>[¬ gP yb g]
structure KR where
 its:List Ri
 ent:Js
 hd:List (Nat × Option Ob)
 ft:List Nat
section
variable (Fc:Cl→List SV→List (Nat × Option Ob)→TV→List (Nat × Option Ob)→Prop) (T:List (Nat × TI)) (ops:List Oper) (yb:Nat→Bool) (w:Nat→Bool→Bool) (an:Nat→kV) (fr:Nat→Nat) (N:Nat)
def EG (s:Slots) (o:Oper):Option (List (Nat × Bool) × List Ri):=
 match o.guard with
 |none=>some ([],[])
 |some (j,want)=>
  match ops[j]? with
  |some oj=>match oj.dst with
   |some d=>match s d with
    |some ⟨gj, .v (.one (.d (.bool b))),some j'⟩=>bif Nat.beq j j' then some ((j,want)::gj,[.eb j b (yb j)])else none
    |_=>none
   |none=>none
  |none=>none
def Jm (s:Slots) (g:List (Nat × Bool)) (c a b:Operand):Option (List Ri × TV):=
 match EO s c,EO s a,EO s b with
 |some ⟨gc, .v (.one (.d (.bool bc))),some jc⟩,some ⟨ga, .v (.one (.d (.bool x))),_⟩,some ⟨gb, .v (.one (.d (.bool y))),_⟩=>
  bif qm gc g && qm ga ((jc,true)::g) && qm gb ((jc,false)::g)then some ([.eg g jc bc (yb jc)], .v (.one (.d (.bool (bif w jc bc then x else y)))))else none
 |_,_,_=>none
def Fe (i:Nat) (s:Slots) (h:Hp):Option KR:=
 match ops[i]? with
 |none=>none
 |some o=>
  match EG ops yb s o with
  |none=>none
  |some (g,c0)=>
   bif yM N o.dst then
    match o.op with
    | .pick c a b=>match Jm yb w s g c a b with
     |some (cs,tv)=>some ⟨c0++cs,⟨g,tv,some i⟩,[],[]⟩
     |none=>none
    |_=>
     match an i with
     | .skip=>some ⟨c0++[.ng g],⟨g, .v (.one (.d (.bool false))),some i⟩,[],[]⟩
     |_=>
     match Br s g o.op.operands.toList with
     |none=>none
     |some xs=>
      let ft:=foot (an i) (fr i) o.op xs
      match OG Fc T (fr i) (an i) o.op xs (ft.map h)with
      |none=>none
      |some E=>bif cO (E.hd.map (·.1)) ft then some ⟨c0++(.cs g E.conds::(bif vW g||vW E.hd then []else [.nd g])),⟨g,E.tv,some i⟩,E.hd,ft⟩else none
   else none
def runT:List Nat→RS→Option (List Ri × RS × List (Nat × qP))
 |[],r=>some ([],r,[])
 |i::l,r=>match Fe Fc T ops yb w an fr N i r.s r.h with
  |some c=>match runT l ⟨qM r.s ((ops[i]?).bind (·.dst)) c.ent,upd r.h c.hd⟩with
   |some (c',r2,inf)=>some (c.its++c',r2,(i,⟨c.ft,c.hd.map (·.1)⟩)::inf)
   |none=>none
  |none=>none
end
section
variable {Fc:Cl→List SV→List (Nat × Option Ob)→TV→List (Nat × Option Ob)→Prop} {T:List (Nat × TI)} {ops:List Oper} {yb:Nat→Bool} {an:Nat→kV} {fr:Nat→Nat} {N:Nat}
theorem Dx {s:Slots} {o:Oper} {g:List (Nat × Bool)} {c:List Ri} (h:EG ops yb s o=some (g,c)):guardOf ops yb s o=some (g,c.flatMap (Ri.P yb)):=by
 unfold EG at h
 unfold guardOf
 split at h
 ·rename_i e;cases h;rw [e];rfl
 ·rename_i j want e
  rw [e]
  simp only
  split at h
  ·rename_i oj e1
   rw [e1]
   simp only
   split at h
   ·rename_i d e2
    rw [e2]
    simp only
    split at h
    ·rename_i gj b j' e3
     rw [e3]
     simp only
     cases hb:Nat.beq j j' with
     |false=>rw [hb]at h;cases h
     |true=>rw [hb]at h;cases h;rfl
    ·cases h
   ·cases h
  ·cases h
theorem Eu {s:Slots} {g:List (Nat × Bool)} {x a b:Operand} {c:List Ri} {tv:TV} (h:Jm yb (fun j _=>yb j) s g x a b=some (c,tv)): ∃cs,yS yb s g x a b=some (cs,tv)∧c.flatMap (Ri.P yb)=ru yb g cs:=by
 unfold Jm at h
 unfold yS
 split at h
 ·rename_i gc bc jc ga xx _ gb yy _ e1 e2 e3
  rw [e1,e2,e3]
  simp only
  cases hb:(qm gc g && qm ga ((jc,true)::g) && qm gb ((jc,false)::g))with
  |false=>rw [hb]at h;cases h
  |true=>rw [hb]at h;cases h;exact⟨_,rfl,by simp [Ri.P]⟩
 ·cases h
theorem D8 {i:Nat} {s:Slots} {h:Hp} {c:KR} (hc:Fe Fc T ops yb (fun j _=>yb j) an fr N i s h=some c):core Fc T ops yb an fr N i s h=some ⟨c.its.flatMap (Ri.P yb),c.ent,c.hd,c.ft⟩:=by
 unfold Fe at hc
 unfold core
 split at hc
 ·cases hc
 ·rename_i o e
  rw [e]
  simp only
  split at hc
  ·cases hc
  ·rename_i g c0 e1
   rw [Dx e1]
   simp only
   cases hd:yM N o.dst with
   |false=>rw [hd]at hc;cases hc
   |true=>
    rw [hd]at hc
    simp only [cond_true]at hc ⊢
    split at hc
    ·rename_i x a b e2
     rw [e2]
     simp only
     split at hc
     ·rename_i cs tv e3
      cases hc
      obtain⟨cs',h1,h2⟩:=Eu e3
      rw [h1]
      simp [List.flatMap_append,h2]
     ·cases hc
    ·rename_i hnp
     split
     ·rename_i x a b e2;exact absurd e2 (hnp x a b)
     ·split at hc
      ·rename_i e3;cases hc;simp [List.flatMap_append,Ri.P,e3]
      ·rename_i hns
       split
       ·rename_i e3;exact absurd e3 hns
       ·split at hc
        ·cases hc
        ·rename_i xs e4
         rw [e4]
         simp only at hc ⊢
         split at hc
         ·cases hc
         ·rename_i E e5
          rw [e5]
          simp only
          cases hs:cO (E.hd.map (·.1)) (foot (an i) (fr i) o.op xs)with
          |false=>rw [hs]at hc;cases hc
          |true=>
           rw [hs]at hc
           simp only [cond_true]at hc ⊢
           cases hc
           cases hg:(vW g||vW E.hd)<;>simp [List.flatMap_append,Ri.P]
theorem Am: ∀{l:List Nat} {r r':RS} {its:List Ri} {inf:List (Nat × qP)},runT Fc T ops yb (fun j _=>yb j) an fr N l r=some (its,r',inf)→wR Fc T ops yb an fr N l r=some (its.flatMap (Ri.P yb),r',inf)
 |[],r,r',its,inf,h=>by cases h;rfl
 |i::l,r,r',its,inf,h=>by
  unfold runT at h
  unfold wR
  split at h
  ·rename_i c e
   rw [D8 e]
   simp only
   split at h
   ·rename_i c' r2 inf' e2
    cases h
    rw [Am e2]
    simp [List.flatMap_append]
   ·cases h
  ·cases h
theorem qj: ∀{l:List Nat} {r r':RS} {cs:List Prop} {inf:List (Nat × qP)},wR Fc T ops yb an fr N l r=some (cs,r',inf)→run Fc T ops yb an fr N l r=some (cs,r')
 |[],r,r',cs,inf,h=>by cases h;rfl
 |i::l,r,r',cs,inf,h=>by
  unfold wR at h
  unfold run step
  split at h
  ·rename_i c e
   try rw [e]
   simp only
   split at h
   ·rename_i c' r2 inf' e2
    cases h
    first|rw [qj e2]|simp only [qj e2]
   ·cases h
  ·cases h
end
def BH (f:Fin) (h:Hp):CV→List (Nat × Nat)
 | .own b _ len=>bif eG b f.frz then(match h b with
   |some (some (.arr _ _ len' _))=>[(len,len')]
   |some (some (.rows _ _ len' _ none))=>[(len,len')]
   |_=>[])else []
 | .fn _ _ n cap=>(List.range n).flatMap fun j=>BH f h (cap j)
 |_=>[]
def Iq (f:Fin) (h:Hp) (s:SV):List (Nat × Nat):=(cellsOf s).flatMap (BH f h)
def Kt (f:Fin) (h:Hp):TV→List (Nat × Nat)
 | .v s=>Iq f h s
 | .fK l=>l.flatMap (Iq f h)
def MJ (f:Fin) (h:Hp):Ob→List (Nat × Nat)
 | .cells _ cs=>cs.flatMap (BH f h)
 | .rows _ _ _ _ (some (_,_,c))=>BH f h c
 | .loop _ _ sl=>sl.flatMap fun p=>Kt f h p.2
 |_=>[]
def Kq (f:Fin) (h:Hp):List (Nat × Nat)→List (Nat × Nat)
 |[]=>[]
 |(b,_)::l=>(match h b with
  |some (some ob)=>bif eG b f.frz then []else MJ f h ob
  |_=>[])++Kq f h l
def wG (l:List (Nat × Nat)):Prop:= ∀e∈l,e.1=e.2
theorem wG.app {l m:List (Nat × Nat)}:wG (l++m)↔wG l∧wG m:=by simp [wG,or_imp,forall_and]
section
variable {f:Fin} {h:Hp}
theorem Ci {α:Type} {g:α→Option (List Prop × CV)} {e:α→List (Nat × Nat)} (hg: ∀x p c,g x=some (p,c)→wG (e x)→All p): ∀{l:List α} {p:List Prop} {cs:List CV},Du (l.map g)=some (p,cs)→wG (l.flatMap e)→All p
 |[],p,cs,hs,_=>by cases hs;trivial
 |x::l,p,cs,hs,he=>by
  rw [List.flatMap_cons,wG.app]at he
  rw [List.map_cons]at hs
  cases hx:g x with
  |none=>rw [hx]at hs;cases hs
  |some y=>
   obtain⟨q,c⟩:=y
   rw [hx]at hs
   simp only [Du]at hs
   split at hs
   ·rename_i q' cs' e2
    cases hs
    rw [aM]
    exact⟨hg x q c hx he.1,Ci hg e2 he.2⟩
   ·cases hs
theorem yh: ∀{c c':CV} {p:List Prop},nI f h c=some (p,c')→wG (BH f h c)→All p:=by
 intro c
 induction c with
 |d x=>intro c' p hf _;cases hf;trivial
 |ptr b off=>
  intro c' p hf _
  unfold nI at hf
  cases hb:eG b f.frz with
  |true=>
   simp only [hb,cond_true]at hf
   split at hf
   ·split at hf
    ·cases hf;trivial
    ·cases hf
   ·cases hf;trivial
   ·cases hf
  |false=>
   simp only [hb,cond_false]at hf
   split at hf
   ·cases hf;trivial
   ·cases hf
 |opt b e i off=>
  intro c' p hf _
  unfold nI at hf
  cases hb:eG b f.frz with
  |true=>simp [hb]at hf
  |false=>
   simp only [hb,cond_false]at hf
   split at hf
   ·cases hf;trivial
   ·cases hf
 |own b nn len=>
  intro c' p hf he
  unfold nI at hf
  unfold BH at he
  cases hb:eG b f.frz with
  |true=>
   simp only [hb,cond_true]at hf he
   split at hf
   ·rename_i e1
    rw [e1]at he
    cases hf
    exact⟨he (_,_) (List.mem_singleton.2 rfl),trivial⟩
   ·rename_i e1
    rw [e1]at he
    cases hf
    exact⟨he (_,_) (List.mem_singleton.2 rfl),trivial⟩
   ·cases hf
  |false=>
   simp only [hb,cond_false]at hf
   split at hf
   ·cases hf;trivial
   ·cases hf
 |mp b=>
  intro c' p hf _
  unfold nI at hf
  cases hb:eG b f.frz with
  |true=>simp [hb]at hf
  |false=>
   simp only [hb,cond_false]at hf
   split at hf
   ·cases hf;trivial
   ·cases hf
 |yl b=>
  intro c' p hf _
  unfold nI at hf
  cases hb:eG b f.frz with
  |true=>simp [hb]at hf
  |false=>
   simp only [hb,cond_false]at hf
   split at hf
   ·cases hf;trivial
   ·cases hf
 |fn g nf n cap ih=>
  intro c' p hf he
  unfold nI at hf
  unfold BH at he
  split at hf
  ·rename_i q cs e1
   cases hf
   exact Ci (g:=fun j=>nI f h (cap j)) (e:=fun j=>BH f h (cap j)) (fun j q c hq hqe=>ih j hq hqe) e1 he
  ·cases hf
theorem yF: ∀{cs cs':List CV} {p:List Prop},Cb f h cs=some (p,cs')→wG (cs.flatMap (BH f h))→All p
 |[],_,p,hf,_=>by cases hf;trivial
 |c::cs,_,p,hf,he=>by
  rw [List.flatMap_cons,wG.app]at he
  unfold Cb at hf
  split at hf
  ·rename_i e1 e2;cases hf;rw [aM];exact⟨yh e1 he.1,yF e2 he.2⟩
  ·cases hf
theorem Cx {s s':SV} {p:List Prop} (hf:Dn f h s=some (p,s')) (he:wG (Iq f h s)):All p:=by
 cases s with
 |one c=>
  unfold Dn at hf
  simp only at hf
  split at hf
  ·rename_i e;cases hf;exact yh e (by simpa [Iq,cellsOf]using he)
  ·cases hf
 |agg cs=>
  unfold Dn at hf
  simp only at hf
  split at hf
  ·rename_i e;cases hf;exact yF e he
  ·cases hf
theorem zQ: ∀{cs cs':List SV} {p:List Prop},wD f h cs=some (p,cs')→wG (cs.flatMap (Iq f h))→All p
 |[],_,p,hf,_=>by cases hf;trivial
 |c::cs,_,p,hf,he=>by
  rw [List.flatMap_cons,wG.app]at he
  unfold wD at hf
  split at hf
  ·rename_i e1 e2;cases hf;rw [aM];exact⟨Cx e1 he.1,zQ e2 he.2⟩
  ·cases hf
theorem Dy {s s':TV} {p:List Prop} (hf:yZ f h s=some (p,s')) (he:wG (Kt f h s)):All p:=by
 cases s with
 |v c=>
  unfold yZ at hf
  simp only at hf
  split at hf
  ·rename_i e;cases hf;exact Cx e he
  ·cases hf
 |fK cs=>
  unfold yZ at hf
  simp only at hf
  split at hf
  ·rename_i e;cases hf;exact zQ e he
  ·cases hf
theorem Az: ∀{cs cs':List (Nat × TV)} {p:List Prop},yO f h cs=some (p,cs')→wG (cs.flatMap fun p=>Kt f h p.2)→All p
 |[],_,p,hf,_=>by cases hf;trivial
 |(t,c)::cs,_,p,hf,he=>by
  rw [List.flatMap_cons,wG.app]at he
  unfold yO at hf
  split at hf
  ·rename_i e1 e2;cases hf;rw [aM];exact⟨Dy e1 he.1,Az e2 he.2⟩
  ·cases hf
theorem Ih {o o':Ob} {p:List Prop} (hf:nH f h o=some (p,o')) (he:wG (MJ f h o)):All p:=by
 unfold nH at hf
 split at hf
 ·split at hf
  ·rename_i e;cases hf;exact yF e he
  ·cases hf
 ·cases hf;trivial
 ·cases hf;trivial
 ·cases hf;trivial
 ·split at hf
  ·rename_i e;cases hf;exact yh e he
  ·cases hf
 ·rename_i m
  revert hf
  generalize (m.ms.all _)=b
  cases b with
  |true=>intro hf;cases hf;trivial
  |false=>intro hf;cases hf
 ·split at hf
  ·rename_i e;cases hf;exact Az e he
  ·cases hf
 ·cases hf;trivial
 ·rename_i b l e
  cases hb:eG b f.frz with
  |true=>simp [hb]at hf
  |false=>
   simp only [hb,cond_false]at hf
   split at hf
   ·cases hf;trivial
   ·cases hf
theorem uI: ∀{l:List (Nat × Nat)} {p:List Prop} {m:List (Nat × Option Ob)},zx f h l=some (p,m)→wG (Kq f h l)→All p
 |[],p,m,hf,_=>by cases hf;trivial
 |(b,b')::l,p,m,hf,he=>by
  unfold Kq at he
  rw [wG.app]at he
  unfold zx at hf
  split at hf
  ·rename_i e1 e2;cases hf;exact uI e2 he.2
  ·rename_i ob q m' e1 e2
   rw [e1]at he
   cases hb:eG b f.frz with
   |true=>simp only [hb,cond_true]at hf;cases hf;exact uI e2 he.2
   |false=>
    simp only [hb,cond_false]at hf he
    split at hf
    ·rename_i e3;cases hf;rw [aM];exact⟨Ih e3 he.1,uI e2 he.2⟩
    ·cases hf
  ·cases hf
def CX (f:Fin) (h:Hp) (s:Slots):List Nat→List (Nat × Nat) × List (Nat × TV)
 |[]=>([],[])
 |t::ts=>match s t with
  |some ⟨[],tv,_⟩=>match yZ f h tv with
   |some (_,tv')=>match CX f h s ts with|(e,l)=>(Kt f h tv++e,(t,tv')::l)
   |none=>CX f h s ts
  |_=>CX f h s ts
theorem qD {s:Slots}: ∀{ts:List Nat} {e:List (Nat × Nat)} {l:List (Nat × TV)},CX f h s ts=(e,l)→wG e→ ∃ts' p,CS f h s ts'=some (p,l)∧All p
 |[],e,l,ha,_=>by cases ha;exact⟨[],[],rfl,trivial⟩
 |t::ts,e,l,ha,he=>by
  unfold CX at ha
  split at ha
  ·rename_i tv src e1
   split at ha
   ·rename_i p tv' e2
    cases hr:CX f h s ts with
    |mk e' l'=>
     rw [hr]at ha
     cases ha
     rw [wG.app]at he
     obtain⟨ts',q,h1,h2⟩:=qD hr he.2
     refine⟨t::ts',p++q, ?_,aM.2 ⟨Dy e2 he.1,h2⟩⟩
     unfold CS
     rw [e1,h1]
     simp only [e2]
   ·exact qD ha he
  ·exact qD ha he
def CQ (L:List Nat) (fz sk:List Nat) (ren:List (Nat × Nat)) (r:RS):Option (List (Nat × Nat) × St):=
 bif xZ L ⟨fz,ren⟩then
  match zx ⟨fz,ren⟩ r.h ren with
  |some (_,hp)=>match CX ⟨fz,ren⟩ r.h r.s sk with|(e,sl)=>some (e++Kq ⟨fz,ren⟩ r.h ren,⟨sl,hp⟩)
  |none=>none
 else none
theorem nD {L fz sk:List Nat} {ren:List (Nat × Nat)} {r:RS} {e:List (Nat × Nat)} {st:St} (ha:CQ L fz sk ren r=some (e,st)) (he:wG e) (cs:List Prop) (hcs:All cs): ∃ts cs',finish L ⟨fz,ren⟩ ts cs r=some (cs',st)∧All cs':=by
 unfold CQ at ha
 cases hb:xZ L ⟨fz,ren⟩with
 |false=>rw [hb]at ha;cases ha
 |true=>
  rw [hb]at ha
  simp only [cond_true]at ha
  split at ha
  ·rename_i q hp e1
   cases hr:CX ⟨fz,ren⟩ r.h r.s sk with
   |mk e' sl=>
    rw [hr]at ha
    cases ha
    rw [wG.app]at he
    obtain⟨ts,p,h1,h2⟩:=qD hr he.1
    refine⟨ts,cs++(p++q), ?_, ?_⟩
    ·unfold finish
     rw [hb]
     simp only [cond_true,h1,e1]
    ·rw [aM,aM]
     exact⟨hcs,h2,uI e1 he.2⟩
  ·cases ha
end
def okO (f:Fin) (h:Hp) (b:Nat):Bool:=match h b with
 |some (some ob)=>bif eG b f.frz then true else(match nH f h ob with|some _=>true|none=>false)
 |some none=>true
 |none=>false
def KT (fz:List Nat) (h:Hp):Nat→List Nat→List Nat
 |0,ks=>ks
 |n+1,ks=>(fun ks'=>bif Nat.beq ks'.length ks.length then ks else KT fz h n ks') (ks.filter (okO ⟨fz,ks.map fun b=>(b,b)⟩ h))
def I7 (L fz sk ks:List Nat) (r:RS):Option (List (Nat × Nat) × St):=
 match CQ L fz sk (ks.map fun b=>(b,b)) r with
 |some x=>some x
 |none=>CQ L fz sk ((KT fz r.h 30 ks).map fun b=>(b,b)) r
theorem Aj {L fz sk ks:List Nat} {r:RS} {e:List (Nat × Nat)} {st:St} (ha:I7 L fz sk ks r=some (e,st)): ∃ren,CQ L fz sk ren r=some (e,st):=by
 unfold I7 at ha
 split at ha
 ·rename_i x h;cases ha;exact⟨_,h⟩
 ·exact⟨_,ha⟩
structure RX where
 an:List (Nat × kV):=[]
 fr:List (Nat × Nat):=[]
 ov:List (Nat × Bool × Nat):=[]
 sk:List Nat:=[]
 fz:List Nat:=[]
 ts:List Nat:=[]
def Gl (x:RX) (an:List (Nat × kV)):Nat→kV:=fun i=>bif eG i x.sk then .skip else match get x.an i with|some a=>a|none=>P6 an i
def JN (j:Nat):List Ri→Bool
 |[]=>false
 | .eb i a _::l=>bif Nat.beq i j then a else JN j l
 | .eg _ i a _::l=>bif Nat.beq i j then a else JN j l
 |_::l=>JN j l
def PZ (ov:List (Nat × Bool × Nat)) (l:Option (List Ri × RS × List (Nat × qP))):Nat→Bool:=fun j=>
 match get ov j with
 |some (v,_)=>v
 |none=>match l with|some (its,_)=>JN j its|none=>false
def Pv (ov:List (Nat × Bool × Nat)) (j:Nat) (b:Bool):Bool:=match get ov j with|some (v,_)=>v|none=>b
def wE:List Nat→List Nat→List Nat
 |[],acc=>acc
 |x::l,acc=>bif eG x acc then wE l acc else wE l (x::acc)
def dstsOf:List Oper→List Nat
 |[]=>[]
 |o::l=>match o.dst with|some d=>d::dstsOf l|none=>dstsOf l
def K9:List (Nat × qP)→List Nat
 |[]=>[]
 |(_,i)::l=>i.wr++K9 l
structure RR where
 its:List Ri
 ok:Bool
 yb:Nat→Bool
 eq:List (Nat × Nat)
 st:St
section
variable (Fc:Cl→List SV→List (Nat × Option Ob)→TV→List (Nat × Option Ob)→Prop) (T:List (Nat × TI)) (ops:Array Oper) (dr:Bool) (N:Nat) (L:List Nat)
def KS (x:RX) (st:St) (yb:Nat→Bool) (l:Option (List Ri × RS × List (Nat × qP))):Option RR:=
 match l with
 |some (its,r,inf)=>
  match I7 L x.fz (match x.ts with|[]=>wE (dstsOf ops.toList++kL st.slots) []|ts=>ts) (wE (K9 inf++kL st.heap) []) r with
  |some (e,st')=>some ⟨its,(bif dr then(vK ops.toList (fun i=>match get (O9 ops) i with|some l=>l|none=>[]) ops.size && jG ops.toList (xJ inf) (fun i=>match get (O9 ops) i with|some l=>l|none=>[]) ops.size)else true),yb,e,st'⟩
  |none=>none
 |none=>none
def JB (x:RX) (an:List (Nat × kV)) (st:St):Option RR:=
 let yb:=PZ x.ov (runT Fc T ops.toList (fun _=>false) (Pv x.ov) (Gl x an) (Lu x.fr) N (List.range ops.size) (qN st))
 KS ops dr L x st yb (runT Fc T ops.toList yb (fun j _=>yb j) (Gl x an) (Lu x.fr) N (List.range ops.size) (qN st))
end
def NW (Fc:Cl→List SV→List (Nat × Option Ob)→TV→List (Nat × Option Ob)→Prop) (T:List (Nat × TI)) (ops:List Oper) (yb:Nat→Bool) (w:Nat→Bool→Bool) (an:Nat→kV) (fr:Nat→Nat) (N:Nat):List Nat→RS→Nat
 |[],_=>999
 |i::l,r=>match Fe Fc T ops yb w an fr N i r.s r.h with
  |some c=>NW Fc T ops yb w an fr N l ⟨qM r.s ((ops[i]?).bind (·.dst)) c.ent,upd r.h c.hd⟩
  |none=>i
section
variable {rd:Option Nat} {P:Program} {B:Base} {N:Nat} {L:List Nat} {T:List (Nat × TI)} {Q:Exit→St→Prop} {st st':St}
theorem Jo (hT:lD P T) (hm:P.follows .mixedOrders=true) {id:Nat} {ops:Array Oper} {dr:Bool} {x:RX} {an:List (Nat × kV)} {R:RR} (he:JB (DW P) T ops dr N L x an st=some R) (hok:R.ok=true) (heq:wG R.eq)
  (hc: ∀it∈R.its,All (it.P R.yb)) (hQ:Q .normal R.st):jy rd P B N L (.region id ops dr) Q st:=by
 unfold JB at he
 simp only at he
 generalize PZ x.ov (runT (DW P) T ops.toList (fun _=>false) (Pv x.ov) (Gl x an) (Lu x.fr) N (List.range ops.size) (qN st))=yb at he
 unfold KS at he
 split at he
 ·rename_i its r inf hrun
  split at he
  ·rename_i e st1 hfin
   cases he
   simp only at hok heq hc hQ
   have hall:All (its.flatMap (Ri.P yb)):=by
    clear hrun hfin hQ
    induction its with
    |nil=>trivial
    |cons i l ih=>rw [List.flatMap_cons,aM];exact⟨hc i (by simp),ih fun j hj=>hc j (by simp [hj])⟩
   have hI:=Am hrun
   obtain⟨ren,hfin⟩:=Aj hfin
   obtain⟨ts,cs',hf,hcs⟩:=nD hfin heq _ hall
   cases dr with
   |false=>
    refine yC hT {yb:=yb,an:=Gl x an,fr:=Lu x.fr,fin:=⟨x.fz,ren⟩,ts:=ts} (cs:=cs') ?_ hcs hQ
    unfold FD
    simp only
    rw [qj hI]
    exact hf
   |true=>
    refine wP hT hm {yb:=yb,an:=Gl x an,fr:=Lu x.fr,fin:=⟨x.fz,ren⟩,ts:=ts} (O9 ops) (cs:=cs') ?_ hcs hQ
    unfold Ls
    simp only
    rw [hI]
    simp only
    simp only [cond_true]at hok
    exact(congrArg (fun b:Bool=>bif b then finish L ⟨x.fz,ren⟩ ts (its.flatMap (Ri.P yb)) r else none) hok).trans hf
  ·cases he
 ·cases he
end
def Mq (l:List (Nat × Nat)):CP:=l.map fun e=>(.n e.1, .n e.2)
theorem vU: ∀{l:List (Nat × Nat)},CP.ok (Mq l)→wG l
 |[],_=>fun _ h=>by simp at h
 |e::l,h=>fun x hx=>by
  rcases List.mem_cons.1 hx with rfl|hx
  ·exact Ck.n.inj h.1
  ·exact vU (l:=l) h.2 x hx
def EW (g:Nat→CP × DV) (c':Nat→DV):Nat→CP
 |0=>[]
 |n+1=>(.dv (g n).2, .dv (c' n))::((g n).1++EW g c' n)
theorem yT {g:Nat→CP × DV} {c':Nat→DV}: ∀{n:Nat},(EW g c' n).ok→ ∀j,j<n→(g j).1.ok∧(g j).2=c' j
 |0,_,j,hj=>by omega
 |n+1,h,j,hj=>by
  obtain⟨h1,h2⟩:=h
  rw [CP.gu]at h2
  by_cases e:j=n
  ·subst e;exact⟨h2.1,Ck.dv.inj h1⟩
  ·exact yT h2.2 j (by omega)
def Ee:DV→DV→CP × DV
 | .sl oW e' l' f',x=>match x with
  | .sl nn e l f=>bif Nat.beq e 0 then([(.n l, .n 0),(.n l', .n 0)], .sl (match oW with|none=>none|some _=>nn) e' l' f')
   else([], .sl (match oW with|none=>none|some _=>nn) e l f)
  |x=>([],x)
 | .ip n' c',x=>match x with
  | .ip n c=>((.b (Nat.ble n' n), .b true)::EW (fun j=>Ee (c' j) (c j)) c' n', .ip n' c')
  |x=>([],x)
 | .fn f' n' c',x=>match x with
  | .fn f n c=>((.n n, .n n')::EW (fun j=>Ee (c' j) (c j)) c' n', .fn f n' c')
  |x=>([],x)
 |_,x=>([],x)
def Ed (t x:CV):CP × CV:=
 match t,x with
 | .d t, .d x=>((Ee t x).1, .d (Ee t x).2)
 | .own _ false _, .own b _ n=>([], .own b false n)
 |_,x=>([],x)
def zD:List CV→List CV→CP × List CV
 |t::ts,x::xs=>((Ed t x).1++(zD ts xs).1,(Ed t x).2::(zD ts xs).2)
 |_,xs=>([],xs)
def ER (t x:SV):CP × SV:=
 match t,x with
 | .one t, .one x=>((Ed t x).1, .one (Ed t x).2)
 | .agg ts, .agg xs=>((zD ts xs).1, .agg (zD ts xs).2)
 |_,x=>([],x)
def pY:List SV→List SV→CP × List SV
 |t::ts,x::xs=>((ER t x).1++(pY ts xs).1,(ER t x).2::(pY ts xs).2)
 |_,xs=>([],xs)
def CK (t x:TV):CP × TV:=
 match t,x with
 | .v t, .v x=>((ER t x).1, .v (ER t x).2)
 | .fK ts, .fK xs=>((pY ts xs).1, .fK (pY ts xs).2)
 |_,x=>([],x)
def Iu (t x:Option Ob):CP × Option Ob:=
 match t,x with
 |some (.cells _ ts),some (.cells E xs)=>((zD ts xs).1,some (.cells E (zD ts xs).2))
 |none,_=>([],none)
 |_,x=>([],x)
def nU:List (Nat × TV)→List (Nat × TV)→CP × List (Nat × TV)
 |(_,t)::ts,(k,x)::xs=>((CK t x).1++(nU ts xs).1,(k,(CK t x).2)::(nU ts xs).2)
 |_,xs=>([],xs)
def qR:List (Nat × Option Ob)→List (Nat × Option Ob)→CP × List (Nat × Option Ob)
 |(_,t)::ts,(k,x)::xs=>((Iu t x).1++(qR ts xs).1,(k,(Iu t x).2)::(qR ts xs).2)
 |_,xs=>([],xs)
theorem Nb (nn oW:Option Bool):(match oW with|none=>none|some _=>nn)=none∨(match oW with|none=>none|some _=>nn)=nn:=by cases oW<;>simp
theorem Ki: ∀{t x:DV},(Ee t x).1.ok→kG x (Ee t x).2:=by
 intro t
 induction t with
 |sl oW e' l' f' _=>
  intro x h
  cases x with
  |sl nn e l f=>
   simp only [Ee]at h ⊢
   cases he:Nat.beq e 0 with
   |true=>
    simp only [he,cond_true]at h ⊢
    have h1:l=0:=Ck.n.inj h.1
    have h2:l'=0:=Ck.n.inj h.2.1
    subst h1;subst h2
    rintro F w v ⟨a,cap,hv,g1,g2,g3,g4,g5⟩
    refine⟨a,cap,hv, ?_, ?_,g3,g4,fun ad ha=> ⟨fun hh=>absurd hh (by omega),fun i hi=>by omega⟩⟩
    ·intro hh;cases oW with
     |none=>cases hh
     |some b=>exact g1 hh
    ·intro hh;cases oW with
     |none=>cases hh
     |some b=>exact g2 hh
   |false=>
    simp only [he,cond_false]
    exact kG.sl (Nb _ _) fun _ _ _ _=> .refl _
  |_=>exact .refl _
 |ip n' c' ih=>
  intro x h
  cases x with
  |ip n c=>
   obtain⟨h1,h2⟩:=h
   have hc:=yT h2
   refine kG.Qd (Nat.le_of_ble_eq_true (Ck.b.inj h1)) fun j hj=> ?_
   have:=ih j (x:=c j) (hc j hj).1
   rwa [(hc j hj).2]at this
  |_=>exact .refl _
 |fn f' n' c' ih=>
  intro x h
  cases x with
  |fn f n c=>
   obtain⟨h1,h2⟩:=h
   have hn:n=n':=Ck.n.inj h1
   subst hn
   have hc:=yT h2
   rintro F w v ⟨vs,hv,hl,hr⟩
   refine⟨vs,hv,hl,fun j u hu=> ?_⟩
   have hj:j<n:=by rw [←hl];exact(List.getElem?_eq_some_iff.1 hu).1
   have:=ih j (x:=c j) (hc j hj).1
   rw [(hc j hj).2]at this
   exact this F w u (hr j u hu)
  |_=>exact .refl _
 |_=>intro x _;exact .refl _
theorem Fb {t x:CV} (h:(Ed t x).1.ok):mW x (Ed t x).2:=by
 unfold Ed at h ⊢
 split
 ·exact mW.d (Ki h)
 ·rintro ρ F w v (⟨k,base,cap,h1,h2⟩|⟨h0,h1,h2,h3⟩)
  ·exact .inl ⟨k,base,cap,h1,h2⟩
  ·exact .inr ⟨rfl,h1,h2,h3⟩
 ·exact .refl _
theorem Bw: ∀{ts xs:List CV},(zD ts xs).1.ok→CR xs (zD ts xs).2
 |t::ts,x::xs,h=>by
  simp only [zD,CP.gu]at h
  exact⟨Fb h.1,Bw h.2⟩
 |[],xs,_=>by
  have: ∀l:List CV,CR l l:=fun l=>by induction l with|nil=>trivial|cons c l ih=>exact⟨.refl _,ih⟩
  simpa [zD]using this xs
 |_::_,[],_=>trivial
theorem Fa {t x:SV} (h:(ER t x).1.ok):vk x (ER t x).2:=by
 unfold ER at h ⊢
 split
 ·exact vk.one (Fb h)
 ·exact vk.agg (Bw h)
 ·exact .refl _
theorem yD: ∀{ts xs:List SV},(pY ts xs).1.ok→Cv xs (pY ts xs).2
 |t::ts,x::xs,h=>by
  simp only [pY,CP.gu]at h
  exact⟨Fa h.1,yD h.2⟩
 |[],xs,_=>by
  have: ∀l:List SV,Cv l l:=fun l=>by induction l with|nil=>trivial|cons c l ih=>exact⟨.refl _,ih⟩
  simpa [pY]using this xs
 |_::_,[],_=>trivial
theorem Fz {t x:TV} (h:(CK t x).1.ok):vo x (CK t x).2:=by
 unfold CK at h ⊢
 split
 ·exact vo.v (Fa h)
 ·exact vo.fK (yD h)
 ·exact .refl _
theorem J2 {t x:Option Ob} (h:(Iu t x).1.ok):Fu x (Iu t x).2:=by
 unfold Iu at h ⊢
 split
 ·exact Au (Bw h)
 ·cases x<;>trivial
 ·exact .refl _
theorem Ab: ∀{ts xs:List (Nat × TV)},(nU ts xs).1.ok→ ∀t tv',get (nU ts xs).2 t=some tv'→ ∃tv,get xs t=some tv∧vo tv tv'
 |(_,y)::ts,(k,x)::xs,h,t,tv',ht=>by
  simp only [nU,CP.gu]at h
  simp only [nU,ay]at ht
  rw [ay]
  split at ht
  ·rename_i e;cases ht;rw [if_pos e];exact⟨x,rfl,Fz h.1⟩
  ·rename_i e;rw [if_neg e];exact Ab h.2 t tv' ht
 |[],xs,_,t,tv',ht=> ⟨tv',by simpa [nU]using ht, .refl _⟩
 |_::_,[],_,t,tv',ht=>by simp [nU,get]at ht
theorem xD: ∀{ts xs:List (Nat × Option Ob)},(qR ts xs).1.ok→oz xs (qR ts xs).2
 |(_,y)::ts,(k,x)::xs,h=>by
  simp only [qR,CP.gu]at h
  exact⟨rfl,J2 h.1,xD h.2⟩
 |[],xs,_=>by simpa [qR]using oz.refl xs
 |_::_,[],_=>trivial
def NE (b:Nat):List (Nat × Nat)→Nat
 |[]=>b
 |(a,c)::l=>bif Nat.beq c b then a else NE b l
def Kb (rn:List (Nat × Nat)):List Nat→List (Nat × Nat)
 |[]=>[]
 |b::l=>(NE b rn,b)::Kb rn l
def narrow (L fz:List Nat) (rn:List (Nat × Nat)) (tg st:St):Option CP:=
 match CQ L fz (kL tg.slots) (Kb rn (kL tg.heap)) (qN st)with
 |some (e,s1)=>some (Mq e++((nU tg.slots s1.slots).1++((qR tg.heap s1.heap).1++[(.st ⟨(nU tg.slots s1.slots).2,(qR tg.heap s1.heap).2⟩, .st tg)])))
 |none=>none
section
variable {B:Base} {N:Nat} {L:List Nat} {st tg:St}
theorem J6 {s1:St} {ts:List (Nat × TV)} {hs:List (Nat × Option Ob)} (h1:(nU ts s1.slots).1.ok) (h2:(qR hs s1.heap).1.ok):jQ B N L s1 ⟨(nU ts s1.slots).2,(qR hs s1.heap).2⟩:=by
 intro a w hc
 obtain⟨⟨ρ,F,hfr,hhi,hs',dn⟩,hid,sz⟩:=hc
 refine⟨⟨ρ,F,hfr,hhi.le (xD h2),fun t tv ht=> ?_,dn⟩,hid,sz⟩
 obtain⟨tv0,g1,g2⟩:=Ab h1 t tv ht
 obtain⟨v,hv,hr⟩:=hs' t tv0 g1
 exact⟨v,hv,g2 _ _ _ _ hr⟩
theorem ku {fz:List Nat} {rn:List (Nat × Nat)} {c:CP} (h:narrow L fz rn tg st=some c) (hc:c.ok):jQ B N L st tg:=by
 unfold narrow at h
 split at h
 ·rename_i e s1 e1
  cases h
  rw [CP.gu,CP.gu,CP.gu]at hc
  have hq:=vU hc.1
  have he:(⟨(nU tg.slots s1.slots).2,(qR tg.heap s1.heap).2⟩:St)=tg:=Ck.st.inj hc.2.2.2.1
  obtain⟨ts,cs',hf,hcs⟩:=nD e1 hq [] trivial
  exact he ▸ jQ.trans (jQ.fin _ ts hf hcs) (J6 hc.2.1 hc.2.2.1)
 ·cases h
end
inductive Kf where
 |sq (y:Code)
 |bl (id:Nat)
 |lo (c:Code) (n:Nat)
 |sc
section
variable (rd:Option Nat) (P:Program) (B:Base) (N:Nat) (L:List Nat)
def post:List Kf→(Exit→St→Prop)→Exit→St→Prop
 |[],Q=>Q
 | .sq y::K,Q=>fun e st=>match e with| .normal=>jy rd P B N L y (post K Q) st|e=>post K Q e st
 | .bl id::K,Q=>fun e st=>match e with| .exit i=>bif Nat.beq i id then post K Q .normal st else post K Q (.exit i) st|e=>post K Q e st
 | .lo c n::K,Q=>fun e st=>match e with| .normal=>LoopN rd P B N L c (post K Q) n st|e=>post K Q e st
 | .sc::K,Q=>fun e st=>(∀l,e≠ .goto l)∧post K Q e st
def QI (Q:Exit→St→Prop) (e:Exit) (st:St):Prop:= ∃s',jQ B N L st s'∧Q e s'
end
inductive CE where
 |c (x:Code)
 |e (x:Exit)
inductive Oo where
 |at(c:Code) (K:List Kf)
 |fin (e:Exit)
 |bad
def go:Nat→CE→List Kf→Oo
 |0,_,_=> .bad
 |n+1, .c c,K=>match c with
  | .seq x y=>go n (.c x) (.sq y::K)
  | .block id x=>go n (.c x) (.bl id::K)
  | .skip=>go n (.e .normal) K
  | .label _=>go n (.e .normal) K
  | .exit i=>go n (.e (.exit i)) K
  | .ret=>go n (.e .ret) K
  | .goto l=>go n (.e (.goto l)) K
  |c=> .at c K
 |n+1, .e e,K=>match K with
  |[]=> .fin e
  | .sq y::K=>match e with| .normal=>go n (.c y) K|e=>go n (.e e) K
  | .bl id::K=>match e with| .exit i=>bif Nat.beq i id then go n (.e .normal) K else go n (.e (.exit i)) K|e=>go n (.e e) K
  | .lo c m::K=>match e with| .normal=>(match m with|0=> .bad|m+1=>go n (.c c) (.lo c m::K))|e=>go n (.e e) K
  | .sc::K=>match e with| .goto _=> .bad|e=>go n (.e e) K
theorem zi {rd:Option Nat} {P:Program} {B:Base} {N:Nat} {L:List Nat} {c:Code} {Q Q':Exit→St→Prop} (hq: ∀e st,Q e st→Q' e st): ∀{n:Nat} {st:St},LoopN rd P B N L c Q n st→LoopN rd P B N L c Q' n st
 |0,_,h=>h
 |n+1,st,h=>eU (Q:=fun e st'=>match e with| .normal=>LoopN rd P B N L c Q n st'|e=>Q e st') h fun e st' hh=>by
  cases e with
  |normal=>exact zi hq (n:=n) hh
  |_=>exact hq _ _ hh
theorem GK {rd:Option Nat} {P:Program} {B:Base} {N:Nat} {L:List Nat} {c:Code} {Q:Exit→St→Prop} {n:Nat} {st st':St} (h:jQ B N L st st') (hw:LoopN rd P B N L c Q n st'):LoopN rd P B N L c Q n st:=by
 cases n with
 |zero=>exact hw
 |succ n=>exact og h hw
section
variable {rd:Option Nat} {P:Program} {B:Base} {N:Nat} {L:List Nat} {T:List (Nat × TI)} {Q:Exit→St→Prop} {st st':St}
theorem QI.imp {e:Exit} (h:jQ B N L st st') (hq:QI B N L Q e st'):QI B N L Q e st:=by
 obtain⟨s,h1,h2⟩:=hq;exact⟨s,h.trans h1,h2⟩
theorem iZ (h:jQ B N L st st'): ∀{K:List Kf} {e:Exit},post rd P B N L K (QI B N L Q) e st'→post rd P B N L K (QI B N L Q) e st
 |[],_,hq=>hq.imp h
 | .sq y::K,e,hq=>by
  cases e with
  |normal=>exact og h hq
  |_=>exact iZ (K:=K) h hq
 | .bl id::K,e,hq=>by
  cases e with
  |exit i=>
   simp only [post]at hq ⊢
   cases hb:Nat.beq i id with
   |true=>rw [hb]at hq;exact iZ (K:=K) h hq
   |false=>rw [hb]at hq;exact iZ (K:=K) h hq
  |_=>exact iZ (K:=K) h hq
 | .lo c n::K,e,hq=>by
  cases e with
  |normal=>exact GK h hq
  |_=>exact iZ (K:=K) h hq
 | .sc::K,e,hq=> ⟨hq.1,iZ (K:=K) h hq.2⟩
def MI (rd:Option Nat) (P:Program) (B:Base) (N:Nat) (L:List Nat) (f:Oo) (Q:Exit→St→Prop) (st:St):Prop:=
 match f with
 | .at c K=>jy rd P B N L c (post rd P B N L K (QI B N L Q)) st
 | .fin e=>QI B N L Q e st
 | .bad=>False
def Qe (rd:Option Nat) (P:Program) (B:Base) (N:Nat) (L:List Nat) (x:CE) (K:List Kf) (Q:Exit→St→Prop) (st:St):Prop:=
 match x with
 | .c c=>jy rd P B N L c (post rd P B N L K (QI B N L Q)) st
 | .e e=>post rd P B N L K (QI B N L Q) e st
theorem go_ok: ∀{n:Nat} {x:CE} {K:List Kf},MI rd P B N L (go n x K) Q st→Qe rd P B N L x K Q st
 |0,_,_,h=>h.elim
 |n+1, .c c,K,h=>by
  unfold go at h
  split at h
  ·have:=go_ok h;exact uO this
  ·have:=go_ok h;exact Ea this
  ·have:=go_ok h;exact Cr this
  ·have:=go_ok h;exact Aa this
  ·have:=go_ok h;exact Jk this
  ·have:=go_ok h;exact JW this
  ·have:=go_ok h;exact IB this
  ·exact h
 |n+1, .e e,[],h=>h
 |n+1, .e e, .sq y::K,h=>by
  unfold go at h
  cases e with
  |normal=>exact go_ok (n:=n) (x:= .c y) (K:=K) h
  |exit i=>exact go_ok (n:=n) (x:= .e _) (K:=K) h
  |goto l=>exact go_ok (n:=n) (x:= .e _) (K:=K) h
  |ret=>exact go_ok (n:=n) (x:= .e _) (K:=K) h
  |panic c=>exact go_ok (n:=n) (x:= .e _) (K:=K) h
  |outgrown=>exact go_ok (n:=n) (x:= .e _) (K:=K) h
 |n+1, .e e, .bl id::K,h=>by
  unfold go at h
  cases e with
  |exit i=>
   show(bif Nat.beq i id then _ else _)
   simp only at h
   cases hb:Nat.beq i id with
   |true=>rw [hb]at h;exact go_ok (n:=n) (x:= .e _) (K:=K) h
   |false=>rw [hb]at h;exact go_ok (n:=n) (x:= .e _) (K:=K) h
  |normal=>exact go_ok (n:=n) (x:= .e _) (K:=K) h
  |goto l=>exact go_ok (n:=n) (x:= .e _) (K:=K) h
  |ret=>exact go_ok (n:=n) (x:= .e _) (K:=K) h
  |panic c=>exact go_ok (n:=n) (x:= .e _) (K:=K) h
  |outgrown=>exact go_ok (n:=n) (x:= .e _) (K:=K) h
 |n+1, .e e, .lo c m::K,h=>by
  unfold go at h
  cases e with
  |normal=>
   cases m with
   |zero=>exact h.elim
   |succ m=>exact go_ok (n:=n) (x:= .c c) (K:= .lo c m::K) h
  |exit i=>exact go_ok (n:=n) (x:= .e _) (K:=K) h
  |goto l=>exact go_ok (n:=n) (x:= .e _) (K:=K) h
  |ret=>exact go_ok (n:=n) (x:= .e _) (K:=K) h
  |panic c=>exact go_ok (n:=n) (x:= .e _) (K:=K) h
  |outgrown=>exact go_ok (n:=n) (x:= .e _) (K:=K) h
 |n+1, .e e, .sc::K,h=>by
  unfold go at h
  cases e with
  |goto l=>exact h.elim
  |normal=>exact⟨fun _=>Exit.noConfusion,go_ok (n:=n) (x:= .e _) (K:=K) h⟩
  |exit i=>exact⟨fun _=>Exit.noConfusion,go_ok (n:=n) (x:= .e _) (K:=K) h⟩
  |ret=>exact⟨fun _=>Exit.noConfusion,go_ok (n:=n) (x:= .e _) (K:=K) h⟩
  |panic c=>exact⟨fun _=>Exit.noConfusion,go_ok (n:=n) (x:= .e _) (K:=K) h⟩
  |outgrown=>exact⟨fun _=>Exit.noConfusion,go_ok (n:=n) (x:= .e _) (K:=K) h⟩
theorem iV {Q1:Exit→St→Prop} {K2:List Kf} (hq: ∀e st,Q1 e st→post rd P B N L K2 Q e st): ∀{K1:List Kf} {e:Exit} {st:St},post rd P B N L K1 Q1 e st→post rd P B N L (K1++K2) Q e st
 |[],e,st,h=>hq e st h
 | .sq y::K,e,st,h=>by
  cases e with
  |normal=>exact eU h fun e st hh=>iV hq hh
  |_=>exact iV (K1:=K) hq h
 | .bl id::K,e,st,h=>by
  cases e with
  |exit i=>
   simp only [post,List.cons_append]at h ⊢
   cases hb:Nat.beq i id with
   |true=>rw [hb]at h;exact iV (K1:=K) hq h
   |false=>rw [hb]at h;exact iV (K1:=K) hq h
  |_=>exact iV (K1:=K) hq h
 | .lo c n::K,e,st,h=>by
  cases e with
  |normal=>exact zi (n:=n) (fun e st hh=>iV hq hh) h
  |_=>exact iV (K1:=K) hq h
 | .sc::K,e,st,h=> ⟨h.1,iV (K1:=K) hq h.2⟩
end
inductive Po:Type→Type 1 where
 |fn {R:Type} (T:List (Nat × TI)) (rs:List ResultVar) (res:R→TV) (hout:R→List (Nat × Option Ob)):Po R
 |jn {R β:Type} (K:List Kf) (t:β→St) (o:Po R):Po (Ex β R)
 |jN {β:Type} (t:β→St):Po β
 |lp {R σ β:Type} (b:Nat) (K:List Kf) (S:σ→St) (Sb:β→St) (o:Po R):Po (bT σ (Ex β R))
 |gt {R σ β:Type} (l:Nat) (K:List Kf) (S:σ→St) (Sb:β→St) (o:Po R):Po (bT σ (Ex β R))
 |yl {R:Type} (b:Nat) (r:fE) (res:R→TV) (hout:R→List (Nat × Option Ob)):Po R
section
variable (rd:Option Nat) (P:Program) (B:Base) (N:Nat) (L:List Nat)
def Po.Q:{R:Type}→Po R→R→Exit→St→Prop
 |_, .fn T rs res hout=>fun r e st=>Gx T rs (res r) (hout r) e st
 |_, .jn K t o=>fun r e st=>match r with
  | .brk z=>e= .normal∧st=t z
  | .ret x=>e≠ .normal∧post rd P B N L K (QI B N L (o.Q x)) e st
 |_, .jN t=>fun r e st=>e= .normal∧st=t r
 |_, .lp b K S Sb o=>fun r e st=>match r with
  | .next s=>e= .normal∧st=S s
  | .done (.brk z)=>e= .exit b∧st=Sb z
  | .done (.ret x)=>e≠ .normal∧e≠ .exit b∧post rd P B N L K (QI B N L (o.Q x)) e st
 |_, .gt l K S Sb o=>fun r e st=>match r with
  | .next s=>e= .goto l∧st=S s
  | .done (.brk z)=>e= .normal∧st=Sb z
  | .done (.ret x)=>(∀l',e≠ .goto l')∧e≠ .normal∧post rd P B N L K (QI B N L (o.Q x)) e st
 |_, .yl b rec res hout=>fun r e st=>r9 b rec (res r) (hout r) e st
end
def O7:List ResultVar→List Nat
 |[]=>[]
 | .tmp t::l=>t::O7 l
 | .cell t _::l=>t::O7 l
def FB:Exit→Bool
 | .normal| .ret=>true
 |_=>false
def qO:Exit→Bool
 | .normal=>true
 |_=>false
def EM (b:Nat):Exit→Bool
 | .exit i=>Nat.beq i b
 |_=>false
def FU:Nat:=5000
def isGo:Exit→Bool
 | .goto _=>true
 |_=>false
def Ie (l:Nat):Exit→Bool
 | .goto i=>Nat.beq i l
 |_=>false
def AJ (e:Exit):List Code→Nat→Option Nat
 |[],_=>none
 |c::l,k=>match c,e with
  | .ret, .ret=>some k
  | .exit i, .exit j=>bif Nat.beq i j then some k else AJ e l (k+1)
  | .goto i, .goto j=>bif Nat.beq i j then some k else AJ e l (k+1)
  |_,_=>AJ e l (k+1)
def K3 (e:Exit) (l:List Code):Option (Nat × Bool):=
 match e with
 | .normal=>some (0,true)
 |e=>match AJ e l 0 with|some k=>some (k+2,false)|none=>none
def IC (L fz:List Nat) (rn:List (Nat × Nat)) (b:Nat) (rec:fE) (res:TV) (hout:List (Nat × Option Ob)) (e:Exit) (st:St):Option CP:=
 match K3 e rec.outs with
 |some (s,v)=>match CQ L fz [] (Kb rn (kL hout)) (qN st)with
  |some (q,s1)=>match get s1.heap b with
   |some (some (.loop r1 1 sl))=>some (Mq q++((qR hout (sP b s s1.heap)).1++[(.ob (some (.loop r1 1 sl)), .ob (some (.loop rec 1 sl))),(.hp (qR hout (sP b s s1.heap)).2, .hp hout),(.tv (vB v), .tv res)]))
   |_=>none
  |none=>none
 |none=>none
def IV (L fz:List Nat) (rn:List (Nat × Nat)) (T:List (Nat × TI)) (rs:List ResultVar) (res:TV) (hout:List (Nat × Option Ob)) (st:St):Option CP:=
 match CQ L fz (O7 rs) (Kb rn (kL hout)) (qN st)with
 |some (e,s1)=>match Cu T s1 rs with
  |some ([],l)=>some (Mq e++((CK res (Ez l)).1++((qR hout s1.heap).1++[(.tv (CK res (Ez l)).2, .tv res),(.hp (qR hout s1.heap).2, .hp hout)])))
  |_=>none
 |none=>none
def leaf (L fz:List Nat) (rn:List (Nat × Nat)):{R:Type}→Po R→Exit→R→St→Option CP
 |_, .fn T rs res hout=>fun e r st=>bif FB e then IV L fz rn T rs (res r) (hout r) st else none
 |_, .jn K t o=>fun e r st=>match r with
  | .brk z=>bif qO e then narrow L fz rn (t z) st else none
  | .ret x=>bif qO e then none else match go FU (.e e) K with
   | .fin e'=>leaf L fz rn o e' x st
   |_=>none
 |_, .jN t=>fun e r st=>bif qO e then narrow L fz rn (t r) st else none
 |_, .lp b K S Sb o=>fun e r st=>match r with
  | .next s=>bif qO e then narrow L fz rn (S s) st else none
  | .done (.brk z)=>bif EM b e then narrow L fz rn (Sb z) st else none
  | .done (.ret x)=>bif qO e||EM b e then none else match go FU (.e e) K with
   | .fin e'=>leaf L fz rn o e' x st
   |_=>none
 |_, .gt l K S Sb o=>fun e r st=>match r with
  | .next s=>bif Ie l e then narrow L fz rn (S s) st else none
  | .done (.brk z)=>bif qO e then narrow L fz rn (Sb z) st else none
  | .done (.ret x)=>bif qO e||isGo e then none else match go FU (.e e) K with
   | .fin e'=>leaf L fz rn o e' x st
   |_=>none
 |_, .yl b rec res hout=>fun e r st=>IC L fz rn b rec (res r) (hout r) e st
section
variable {rd:Option Nat} {P:Program} {B:Base} {N:Nat} {L:List Nat}
theorem Bh {e:Exit} (h:qO e=true):e= .normal:=by cases e<;>first|rfl|cases h
theorem EI {e:Exit} (h:qO e=false):e≠ .normal:=by rintro rfl;cases h
theorem LZ {b:Nat} {e:Exit} (h:EM b e=true):e= .exit b:=by
 cases e<;>first|cases h|(rename_i i;exact congrArg Exit.exit (Nat.eq_of_beq_eq_true h))
theorem LV {b:Nat} {e:Exit} (h:EM b e=false):e≠ .exit b:=by rintro rfl;simp [EM]at h
theorem Lg {e:Exit} (h:isGo e=false): ∀l,e≠ .goto l:=by rintro l rfl;cases h
theorem JL {l:Nat} {e:Exit} (h:Ie l e=true):e= .goto l:=by
 cases e<;>first|cases h|(rename_i i;exact congrArg Exit.goto (Nat.eq_of_beq_eq_true h))
theorem uz {e:Exit} {l0:List Code}: ∀{l:List Code} {k j:Nat},(∀i c,l[i]? =some c→l0[k+i]? =some c)→AJ e l k=some j→ ∃c,l0[j]? =some c∧uH c=true∧e=sN c
 |[],k,j,_,h=>by cases h
 |c::l,k,j,hl,h=>by
  have hn: ∀i c',l[i]? =some c'→l0[k+1+i]? =some c':=fun i c' hc=>by
   have:=hl (i+1) c' (by simpa using hc)
   rwa [show k+(i+1)=k+1+i by omega]at this
  have h0:=hl 0 c rfl
  unfold AJ at h
  split at h
  ·cases h;exact⟨_,h0,rfl,rfl⟩
  ·rename_i i' j'
   cases hb:Nat.beq i' j' with
   |true=>rw [hb]at h;cases h;have:=Nat.eq_of_beq_eq_true hb;subst this;exact⟨_,h0,rfl,rfl⟩
   |false=>rw [hb]at h;exact uz hn h
  ·rename_i i' j'
   cases hb:Nat.beq i' j' with
   |true=>rw [hb]at h;cases h;have:=Nat.eq_of_beq_eq_true hb;subst this;exact⟨_,h0,rfl,rfl⟩
   |false=>rw [hb]at h;exact uz hn h
  ·exact uz hn h
theorem Jb {fz:List Nat} {rn:List (Nat × Nat)} {b:Nat} {rec:fE} {res:TV} {hout:List (Nat × Option Ob)} {e:Exit} {st:St} {c:CP} (h:IC L fz rn b rec res hout e st=some c) (hc:c.ok):
  QI B N L (r9 b rec res hout) e st:=by
 unfold IC at h
 split at h
 ·rename_i s v e0
  split at h
  ·rename_i q s1 e1
   split at h
   ·rename_i r1 sl e2
    cases h
    rw [CP.gu,CP.gu]at hc
    have hq:=vU hc.1
    obtain⟨ts,cs',hf,hcs⟩:=nD e1 hq [] trivial
    obtain⟨h1,h2,h3,_⟩:=hc.2.2
    have h1:=Ck.ob.inj h1
    simp only [Option.some.injEq,Ob.loop.injEq,and_true]at h1
    subst h1
    refine⟨s1,jQ.fin _ ts hf hcs,s,v,sl, ?_,e2, ?_, ?_⟩
    ·unfold K3 at e0
     split at e0
     ·cases e0;exact .inl ⟨rfl,rfl,rfl⟩
     ·rename_i hne
      split at e0
      ·rename_i k e3
       cases e0
       obtain⟨c,g1,g2,g3⟩:=uz (l0:=r1.outs) (l:=r1.outs) (k:=0) (fun i c hc=>by simpa using hc) e3
       exact .inr ⟨k,c,g1,g2,g3,rfl,rfl⟩
      ·cases e0
    ·have:=xD hc.2.1;rwa [Ck.hp.inj h2]at this
    ·exact vo.of (Ck.tv.inj h3)
   ·cases h
  ·cases h
 ·cases h
theorem H7 {fz:List Nat} {rn:List (Nat × Nat)} {T:List (Nat × TI)} {rs:List ResultVar} {res:TV} {hout:List (Nat × Option Ob)} {e:Exit} {st:St} {c:CP} (he:FB e=true) (h:IV L fz rn T rs res hout st=some c) (hc:c.ok):
  QI B N L (Gx T rs res hout) e st:=by
 unfold IV at h
 split at h
 ·rename_i q s1 e1
  split at h
  ·rename_i l e2
   cases h
   rw [CP.gu,CP.gu,CP.gu]at hc
   have hq:=vU hc.1
   obtain⟨ts,cs',hf,hcs⟩:=nD e1 hq [] trivial
   have h1:(CK res (Ez l)).2=res:=Ck.tv.inj hc.2.2.2.1
   have h2:(qR hout s1.heap).2=hout:=Ck.hp.inj hc.2.2.2.2.1
   refine⟨s1,jQ.fin _ ts hf hcs, ?_,⟨[],l,e2,trivial, ?_⟩, ?_⟩
   ·cases e<;>simp [FB]at he<;>simp
   ·have:=Fz hc.2.1;rwa [h1]at this
   ·have:=xD hc.2.2.1;rwa [h2]at this
  ·cases h
 ·cases h
theorem KJ {fz:List Nat} {rn:List (Nat × Nat)}: ∀{R:Type} {po:Po R} {e:Exit} {r:R} {st:St} {c:CP},leaf L fz rn po e r st=some c→c.ok→QI B N L (po.Q rd P B N L r) e st:=by
 intro R po
 induction po with
 |fn T rs res hout=>
  intro e r st c h hc
  unfold leaf at h
  cases he:FB e with
  |false=>simp [he]at h
  |true=>simp only [he,cond_true]at h;exact H7 he h hc
 |jN t=>
  intro e r st c h hc
  unfold leaf at h
  cases he:qO e with
  |false=>simp [he]at h
  |true=>simp only [he,cond_true]at h;exact⟨_,ku h hc,Bh he,rfl⟩
 |jn K t o ih=>
  intro e r st c h hc
  unfold leaf at h
  cases r with
  |brk z=>
   simp only at h
   cases he:qO e with
   |false=>simp [he]at h
   |true=>simp only [he,cond_true]at h;exact⟨_,ku h hc,Bh he,rfl⟩
  |ret x=>
   simp only at h
   cases he:qO e with
   |true=>simp [he]at h
   |false=>
    simp only [he,cond_false]at h
    split at h
    ·rename_i e' e1
     have:=ih h hc
     refine⟨st, .refl,EI he, ?_⟩
     exact go_ok (n:=FU) (x:= .e e) (by rw [e1];exact this)
    ·cases h
 |lp b K S Sb o ih=>
  intro e r st c h hc
  unfold leaf at h
  cases r with
  |next s=>
   simp only at h
   cases he:qO e with
   |false=>simp [he]at h
   |true=>simp only [he,cond_true]at h;exact⟨_,ku h hc,Bh he,rfl⟩
  |done r=>
   cases r with
   |brk z=>
    simp only at h
    cases he:EM b e with
    |false=>simp [he]at h
    |true=>simp only [he,cond_true]at h;exact⟨_,ku h hc,LZ he,rfl⟩
   |ret x=>
    simp only at h
    cases he:(qO e||EM b e)with
    |true=>simp [he]at h
    |false=>
     simp only [he,cond_false]at h
     rw [Bool.or_eq_false_iff]at he
     split at h
     ·rename_i e' e1
      have:=ih h hc
      refine⟨st, .refl,EI he.1,LV he.2, ?_⟩
      exact go_ok (n:=FU) (x:= .e e) (by rw [e1];exact this)
     ·cases h
 |gt b K S Sb o ih=>
  intro e r st c h hc
  unfold leaf at h
  cases r with
  |next s=>
   simp only at h
   cases he:Ie b e with
   |false=>simp [he]at h
   |true=>simp only [he,cond_true]at h;exact⟨_,ku h hc,JL he,rfl⟩
  |done r=>
   cases r with
   |brk z=>
    simp only at h
    cases he:qO e with
    |false=>simp [he]at h
    |true=>simp only [he,cond_true]at h;exact⟨_,ku h hc,Bh he,rfl⟩
   |ret x=>
    simp only at h
    cases he:(qO e||isGo e)with
    |true=>simp [he]at h
    |false=>
     simp only [he,cond_false]at h
     rw [Bool.or_eq_false_iff]at he
     split at h
     ·rename_i e' e1
      have:=ih h hc
      refine⟨st, .refl,Lg he.2,EI he.1, ?_⟩
      exact go_ok (n:=FU) (x:= .e e) (by rw [e1];exact this)
     ·cases h
 |yl b rec res hout=>
  intro e r st c h hc
  exact Jb h hc
end
def fact (Γ:List Prop) (j:Nat):Prop:=match Γ,j with
 |[],_=>True
 |p::_,0=>p
 |_::l,j+1=>fact l j
theorem lg: ∀{Γ:List Prop} {j:Nat},All Γ→fact Γ j
 |[],_,_=>trivial
 |_::_,0,h=>h.1
 |_::_,j+1,h=>lg (j:=j) h.2
def M7 (Γ:List Prop):Cs→Prop
 | .u j=>fact Γ j
 | .k j=>fact Γ j
 | .pf x=>x.p
 | .dv _ x=>x.b
 | .dk _ x=>x.b
 | .m _ _ b _=>b
def Ov (Γ:List Prop):List Nat→List Prop→Option CP
 |[],[]=>some []
 |j::js,a::as=>match Ov Γ js as with|some l=>some ((.p (fact Γ j), .p a)::l)|none=>none
 |_,_=>none
theorem Im {Γ:List Prop} (hΓ:All Γ): ∀{js:List Nat} {as:List Prop} {l:CP},Ov Γ js as=some l→l.ok→All as
 |[],[],_,_,_=>trivial
 |j::js,a::as,l,h,hl=>by
  unfold Ov at h
  split at h
  ·rename_i e;cases h;exact⟨Ck.p.inj hl.1 ▸ lg hΓ,Im hΓ e hl.2⟩
  ·cases h
 |[],_::_,_,h,_=>by cases h
 |_::_,[],_,h,_=>by cases h
def Mh (Γ:List Prop):Cs→CP
 | .dv j x=>[(.p (fact Γ j), .p x.a)]
 | .dk j x=>[(.p (fact Γ j), .p x.a)]
 | .m js a _ _=>match Ov Γ js a with|some l=>l|none=>[(.b true, .b false)]
 |_=>[]
def P8:Cs→Bool
 | .u _=>true
 | .dv _ _=>true
 | .m _ _ _ _=>true
 |_=>false
theorem BD {Γ:List Prop} (hΓ:All Γ) {c:Cs} (h:CP.ok (Mh Γ c)):M7 Γ c:=by
 cases c with
 |u j=>exact lg hΓ
 |k j=>exact lg hΓ
 |pf x=>exact x.h
 |dv j x=>exact x.h (Ck.p.inj h.1 ▸ lg hΓ)
 |dk j x=>exact x.h (Ck.p.inj h.1 ▸ lg hΓ)
 |m js a b hb=>
  simp only [Mh]at h
  split at h
  ·rename_i e;exact hb (Im hΓ e h)
  ·exact absurd (Ck.b.inj h.1) (by simp)
def Bb (Γ:List Prop) (w:Prop→Prop):List Prop→List Cs→Option (CP × List Cs)
 |[],cs=>some ([],cs)
 |p::ps,c::cs=>match Bb Γ w ps cs with
  |some (l,r)=>some ((.p (bif P8 c then w p else p), .p (M7 Γ c))::(Mh Γ c++l),r)
  |none=>none
 |_::_,[]=>none
def Mg (yb:Nat→Bool):List (Nat × Bool)→Bool
 |[]=>true
 |(j,w)::g=>(yb j==w) && Mg yb g
theorem BG {yb:Nat→Bool}: ∀{g:List (Nat × Bool)},Mg yb g=true↔gP yb g
 |[]=>by simp [Mg,gP]
 |(j,w)::g=>by simp [Mg,gP,BG]
def Og (yb:Nat→Bool) (g:List (Nat × Bool)) (p:Prop):Prop:=match g with
 |[]=>p
 |g=>gB (g.map fun q=>(yb q.1,q.2))=true→p
theorem Lv {yb:Nat→Bool} {g:List (Nat × Bool)} (p:Prop) (h:p):Og yb g p:=by
 cases g with
 |nil=>exact h
 |cons x g=>exact fun _=>h
theorem Ld {yb:Nat→Bool} {g:List (Nat × Bool)}: ∀{l:List Prop},All (l.map (Og yb g))→All (ru yb g l):=by
 intro l h
 cases g with
 |nil=>have h':All (l.map id):=h;simpa [ru]using h'
 |cons x g=>
  cases l with
  |nil=>trivial
  |cons p l=>
   refine⟨fun hg=> ?_,trivial⟩
   have hb:=KQ hg
   have: ∀l:List Prop,All (l.map (Og yb (x::g)))→All l:=fun l=>by
    induction l with
    |nil=>exact fun _=>trivial
    |cons q l ih=>exact fun hh=> ⟨hh.1 hb,ih hh.2⟩
   exact this _ h
theorem AL {Γ:List Prop} (hΓ:All Γ) {w:Prop→Prop} (hw: ∀p,p→w p): ∀{ps:List Prop} {cs r:List Cs} {l:CP},Bb Γ w ps cs=some (l,r)→l.ok→All (ps.map w)
 |[],_,_,_,_,_=>trivial
 |p::ps,[],_,_,h,_=>by cases h
 |p::ps,c::cs,r,l,h,hl=>by
  unfold Bb at h
  split at h
  ·rename_i l' r' e
   cases h
   obtain⟨h1,h2⟩:=hl
   rw [CP.gu]at h2
   refine⟨?_,AL hΓ hw e h2.2⟩
   have h3:=BD hΓ h2.1
   rw [←Ck.p.inj h1]at h3
   cases hc:P8 c with
   |true=>rw [hc]at h3;exact h3
   |false=>rw [hc]at h3;exact hw _ h3
  ·cases h
def J4 (Γ:List Prop) (ov:List (Nat × Bool × Nat)) (j:Nat) (a v:Bool):CP:=
 match get ov j with
 |some (w,k)=>[(.p (a=w), .p (fact Γ k)),(.b v, .b w)]
 |none=>[(.b a, .b v)]
theorem EY {Γ:List Prop} (hΓ:All Γ) {ov:List (Nat × Bool × Nat)} {j:Nat} {a v:Bool} (h:(J4 Γ ov j a v).ok):a=v:=by
 unfold J4 at h
 split at h
 ·have:a=_:=Ck.p.inj h.1 ▸ lg hΓ
  rw [this];exact(Ck.b.inj h.2.1).symm
 ·exact Ck.b.inj h.1
def mF (yb:Nat→Bool) (ov:List (Nat × Bool × Nat)) (Γ:List Prop):List Ri→List Cs→Option CP
 |[],[]=>some []
 |[],_::_=>none
 | .eb j a v::its,cs=>match mF yb ov Γ its cs with|some l=>some (J4 Γ ov j a v++l)|none=>none
 | .eg _ j a v::its,cs=>match mF yb ov Γ its cs with|some l=>some (J4 Γ ov j a v++l)|none=>none
 | .cs g ps::its,cs=>match Bb Γ (Og yb g) ps cs with
  |some (l1,cs')=>match mF yb ov Γ its cs' with|some l=>some (l1++l)|none=>none
  |none=>none
 | .nd g::its,cs=>match mF yb ov Γ its cs with|some l=>some ((.b (Mg yb g), .b true)::l)|none=>none
 | .ng g::its,cs=>match mF yb ov Γ its cs with|some l=>some ((.b (Mg yb g), .b false)::l)|none=>none
theorem IJ {yb:Nat→Bool} {g:List (Nat × Bool)} {p:Prop} (h:p):All (ru yb g [p]):=by
 cases g with
 |nil=>exact⟨h,trivial⟩
 |cons x g=>exact⟨fun _=> ⟨h,trivial⟩,trivial⟩
theorem DI {yb:Nat→Bool} {ov:List (Nat × Bool × Nat)} {Γ:List Prop} (hΓ:All Γ): ∀{its:List Ri} {cs:List Cs} {l:CP},mF yb ov Γ its cs=some l→l.ok→ ∀it∈its,All (it.P yb)
 |[],_,_,_,_=>fun _ h=>by simp at h
 |it::its,cs,l,h,hl=>by
  have key: ∃cs' l',mF yb ov Γ its cs'=some l'∧l'.ok∧All (it.P yb):=by
   cases it with
   |eb j a v=>
    unfold mF at h;split at h
    ·rename_i l' e;cases h;rw [CP.gu]at hl;exact⟨_,_,e,hl.2,EY hΓ hl.1,trivial⟩
    ·cases h
   |eg g j a v=>
    unfold mF at h;split at h
    ·rename_i l' e;cases h;rw [CP.gu]at hl;exact⟨_,_,e,hl.2,IJ (EY hΓ hl.1)⟩
    ·cases h
   |cs g ps=>
    unfold mF at h;split at h
    ·rename_i l1 cs' e0
     split at h
     ·rename_i l' e;cases h;rw [CP.gu]at hl;exact⟨_,_,e,hl.2,Ld (AL hΓ Lv e0 hl.1)⟩
     ·cases h
    ·cases h
   |nd g=>
    unfold mF at h;split at h
    ·rename_i l' e;cases h;exact⟨_,_,e,hl.2,BG.1 (Ck.b.inj hl.1),trivial⟩
    ·cases h
   |ng g=>
    unfold mF at h;split at h
    ·rename_i l' e;cases h;exact⟨_,_,e,hl.2,(fun hg=>by have:=BG.2 hg;rw [Ck.b.inj hl.1]at this;cases this),trivial⟩
    ·cases h
  obtain⟨cs',l',h1,h2,h3⟩:=key
  intro x hx
  rcases List.mem_cons.1 hx with rfl|hx
  ·exact h3
  ·exact DI hΓ h1 h2 x hx
def Li:List Ri→Nat
 |[]=>0
 | .cs _ ps::l=>ps.length+Li l
 |_::l=>Li l
def P5:Nat→List Cs
 |0=>[]
 |n+1=> .u n::P5 n
def Ns (its:List Ri):List Cs→List Cs
 |[]=>P5 (Li its)
 |l=>l
structure IS where
 act:St→List Ck
 want:St→List Ck
 nxt:St→St
 ok: ∀B N L st,act st=want st→jQ B N L st (nxt st)
structure Qc where
 p:Prop
 act:St→List Ck
 want:St→List Ck
 nxt:St→St
 ok:p→ ∀B N L st,act st=want st→jQ B N L st (nxt st)
def yV:List Ck→List Ck→Option CP
 |[],[]=>some []
 |x::xs,y::ys=>match yV xs ys with|some l=>some ((x,y)::l)|none=>none
 |_,_=>none
theorem y8: ∀{l m:List Ck} {c:CP},yV l m=some c→c.ok→l=m
 |[],[],_,_,_=>rfl
 |x::xs,y::ys,c,h,hc=>by
  unfold yV at h
  split at h
  ·rename_i l e;cases h;rw [show x=y from hc.1,y8 e hc.2]
  ·cases h
 |[],_::_,_,h,_=>by cases h
 |_::_,[],_,h,_=>by cases h
structure Tg (β:Type) where
 ks:List Nat
 kh:List Nat
 s:β→List (Nat × TV)
 h:β→List (Nat × Option Ob)
def BI {α:Type} (l:List (Nat × α)):List Nat→List (Nat × α)
 |[]=>[]
 |k::ks=>match get l k with|some x=>(k,x)::BI l ks|none=>BI l ks
def Tg.at {β:Type} (t:Tg β) (st:St) (z:β):St:=⟨t.s z++BI st.slots t.ks,t.h z++BI st.heap t.kh⟩
inductive Sc:Type→Type 1 where
 |en {R:Type} (r:R) (fz:List Nat) (rn:List (Nat × Nat)):Sc R
 |no {R:Type}:Sc R
 |rg {R:Type} (x:RX) (cs:List Cs) (k:Sc R):Sc R
 |bd {R T:Type} (o:Option T) (q:T→Prop) (h: ∀y,o=some y→q y) (an:T→List (Nat × kV)) (k:T→Sc R):Sc R
 |as {R:Type} (c:Prop) (d:Decidable c) (l:List Prop) (h:c→All l) (k:Sc R):Sc R
 |it {R:Type} (a b:Sc R):Sc R
 |tf {R:Type} (v:Bool) (c:List Cs) (k:Sc R):Sc R
 |fk {R:Type} (b:Bool) (x y:Sc R):Sc R
 |im {R:Type} (s:IS) (k:Sc R):Sc R
 |wi {R:Type} (j:Nat) (s:Qc) (k:Sc R):Sc R
 |fz {R:Type} (l:List Nat) (k:Sc R):Sc R
 |ul {R:Type} (n:Nat) (k:Sc R):Sc R
 |ss {R:Type} (k:Sc R):Sc R
 |sp {R σ β:Type} (s0:σ) (t:Tg σ) (u:Tg β) (a:Sc Unit) (body:σ→Sc (bT σ (Ex β R))) (k:β→Sc R):Sc R
 |rf {R:Type} (lb:Nat) (sl:List Nat) (outs:List Code) (w:Option Nat) (jf:Nat) (c:List Cs) (k:Sc R):Sc R
 |jn {R β:Type} (d:Nat) (t:Tg β) (a:Sc (Ex β R)) (k:β→Sc R):Sc R
 |jN {R β:Type} (d:Nat) (t:Tg β) (a:Sc β) (k:β→Sc R):Sc R
 |lp {R σ β:Type} (s0:σ) (fz:List Nat) (rn:List (Nat × Nat)) (t:Tg σ) (u:Tg β) (body:σ→Sc (bT σ (Ex β R))) (k:β→Sc R):Sc R
inductive Tr:Type→Type 1 where
 |bad {R:Type} (m:Nat):Tr R
 |no {R:Type}:Tr R
 |en {R:Type} (r:R):Tr R
 |ck {R:Type} (c:CP) (t:Tr R):Tr R
 |bd {R T:Type} (o:Option T) (k:T→Tr R):Tr R
 |as {R:Type} (c:Prop) (d:Decidable c) (k:Tr R):Tr R
 |it {R:Type} (b:Bool) (x y:Tr R):Tr R
 |jn {R β:Type} (a:Tr (Ex β R)) (k:β→Tr R):Tr R
 |jN {R β:Type} (a:Tr β) (k:β→Tr R):Tr R
 |lp {R σ β:Type} (s0:σ) (body:σ→Tr (bT σ (Ex β R))) (k:β→Tr R):Tr R
 |sp {R σ β:Type} (s0:σ) (a:Tr Unit) (body:σ→Tr (bT σ (Ex β R))) (k:β→Tr R):Tr R
def Tr.ok:{R:Type}→Tr R→Prop
 |_, .bad _=>False
 |_, .no=>True
 |_, .en _=>True
 |_, .ck c t=>c.ok∧t.ok
 |_, .bd _ k=> ∀y,(k y).ok
 |_, .as _ _ k=>k.ok
 |_, .it _ x y=>x.ok∧y.ok
 |_, .jn a k=>a.ok∧ ∀z,(k z).ok
 |_, .jN a k=>a.ok∧ ∀z,(k z).ok
 |_, .lp _ body k=>(∀s,(body s).ok)∧ ∀z,(k z).ok
 |_, .sp _ a body k=>a.ok∧(∀s,(body s).ok)∧ ∀z,(k z).ok
def Tr.den:{R:Type}→Tr R→Option R
 |_, .bad _=>none
 |_, .no=>none
 |_, .en r=>some r
 |_, .ck _ t=>t.den
 |_, .bd o k=>Option.bind o fun y=>(k y).den
 |_, .as c d k=> @dI _ c d k.den
 |_, .it b x y=>bif b then x.den else y.den
 |_, .jn a k=>Option.bind a.den fun o=>match o with| .ret v=>some v| .brk z=>(k z).den
 |_, .jN a k=>Option.bind a.den fun z=>(k z).den
 |_, .lp s0 body k=>Option.bind (aI (fun s=>(body s).den) FUEL s0) fun o=>match o with| .ret v=>some v| .brk z=>(k z).den
 |_, .sp s0 a body k=>Option.bind a.den fun _=>Option.bind (aI (fun s=>(body s).den) FUEL s0) fun o=>match o with| .ret v=>some v| .brk z=>(k z).den
inductive Sd:Type 1 where
 |bad (b:Bool)
 |nil
 |ck (x:Ck) (t:Sd)
 |fn {T:Type} (f:T→Sd)
 |two (x y:Sd)
def CP.side (b:Bool):CP→Sd→Sd
 |[],t=>t
 |p::l,t=> .ck (bif b then p.1 else p.2) (CP.side b l t)
def Tr.side (b:Bool):{R:Type}→Tr R→Sd
 |_, .bad _=> .bad b
 |_, .no=> .nil
 |_, .en _=> .nil
 |_, .ck c t=>c.side b (t.side b)
 |_, .bd _ k=> .fn fun y=>(k y).side b
 |_, .as _ _ k=>k.side b
 |_, .it _ x y=> .two (x.side b) (y.side b)
 |_, .jn a k=> .two (a.side b) (.fn fun z=>(k z).side b)
 |_, .jN a k=> .two (a.side b) (.fn fun z=>(k z).side b)
 |_, .lp _ body k=> .two (.fn fun s=>(body s).side b) (.fn fun z=>(k z).side b)
 |_, .sp _ a body k=> .two (a.side b) (.two (.fn fun s=>(body s).side b) (.fn fun z=>(k z).side b))
theorem CP.qB: ∀{c:CP} {t t':Sd},c.side true t=c.side false t'→c.ok∧t=t'
 |[],_,_,h=> ⟨trivial,h⟩
 |p::l,t,t',h=>by
  simp only [CP.side,cond_true,cond_false,Sd.ck.injEq]at h
  have:=CP.qB h.2
  exact⟨⟨h.1,this.1⟩,this.2⟩
theorem Sd.su {T:Type} {f g:T→Sd} (h:Sd.fn f=Sd.fn g): ∀y,f y=g y:=by
 simp only [Sd.fn.injEq,heq_eq_eq,true_and]at h
 exact fun y=>congrFun h y
theorem Tr.qB: ∀{R:Type} {t:Tr R},t.side true=t.side false→t.ok:=by
 intro R t
 induction t with
 |bad _=>intro h;simp [Tr.side]at h
 |no=>intro _;trivial
 |en _=>intro _;trivial
 |ck c t ih=>intro h;have:=CP.qB h;exact⟨this.1,ih this.2⟩
 |bd o k ih=>intro h y;exact ih y (Sd.su h y)
 |as c d k ih=>intro h;exact ih h
 |it b x y ihx ihy=>intro h;simp only [Tr.side,Sd.two.injEq]at h;exact⟨ihx h.1,ihy h.2⟩
 |jn a k iha ihk=>intro h;simp only [Tr.side,Sd.two.injEq]at h;exact⟨iha h.1,fun z=>ihk z (Sd.su h.2 z)⟩
 |jN a k iha ihk=>intro h;simp only [Tr.side,Sd.two.injEq]at h;exact⟨iha h.1,fun z=>ihk z (Sd.su h.2 z)⟩
 |lp s0 body k ihb ihk=>intro h;simp only [Tr.side,Sd.two.injEq]at h;exact⟨fun s=>ihb s (Sd.su h.1 s),fun z=>ihk z (Sd.su h.2 z)⟩
 |sp s0 a body k iha ihb ihk=>intro h;simp only [Tr.side,Sd.two.injEq]at h;exact⟨iha h.1,fun s=>ihb s (Sd.su h.2.1 s),fun z=>ihk z (Sd.su h.2.2 z)⟩
def Mk:Option TV→Option Bool
 |some (.v (.one (.d (.bool b))))=>some b
 |_=>none
theorem BK {x:Option TV} {b:Bool} (h:Mk x=some b):x=some (.v (.one (.d (.bool b)))):=by
 unfold Mk at h
 split at h
 ·cases h;rfl
 ·cases h
section
variable (q:Bool) (P:Program) (T:List (Nat × TI)) (N:Nat) (L:List Nat)
def Hz (Γ:List Prop) (outs:List Code) (stt:Nat):Option Nat→List Cs→Option (CP × Exit)
 |none,[]=>some ([(.n stt, .n 0)], .normal)
 |none,c::_=>some ((.p (Nat.beq stt 0=true), .p (M7 Γ c))::Mh Γ c, .normal)
 |some k,cs=>match outs[k]? with
  |some o=>bif uH o then(match cs with
   |[]=>some ([(.n stt, .n (k+2))],sN o)
   |c::_=>some ((.p (Nat.beq stt (k+2)=true), .p (M7 Γ c))::Mh Γ c,sN o))else none
  |none=>none
def PO (st:St) (g:Operand):Option (TV × FuncId × List CV × List CV):=
 match uV st g with
 |some gv=>match Kl gv with|some (f,c1,c2)=>some (gv,f,c1,c2)|none=>none
 |none=>none
def isNone {α:Type}:Option α→Bool
 |none=>true
 |_=>false
def Bz (N:Nat) (lb:Nat) (sl:List Nat) (outs:List Code) (w:Option Nat) (jf:Nat) (c:List Cs) (g:Operand) (ps:Array Nat) (assign body:Code) (st:St) (Γ:List Prop) (an:List (Nat × kV)):Option (CP × Exit × St):=
 match PO st g with
 |some (_,f,c1,c2)=>
  match get an 0 with
  |some (.call ids res hout)=>
   let hp:=(lb,some (.loop ⟨ps.toList,assign,body,N,outs⟩ 0 (BI st.slots sl)))::st.heap
   match bI ids (ids.map (aP hp)),get hout lb with
   |some hin,some (some (.loop r' stt _))=>match Hz Γ outs stt w c with
    |some (ck,e)=>some ((.b (isNone (get st.heap lb)), .b true)::
      (.b (cO ((c1++CV.yl lb::c2).flatMap CV.aV) ids && cO (eY (ids.map (aP hp))) ids && fU ids (hout.map (·.1)) ((hout.map (·.1)).map (aP hp))), .b true)::
      (.p (Fn P f ((c1++CV.yl lb::c2).map .one) hin res hout), .p (fact Γ jf))::(.co r'.outs, .co outs)::ck,e,⟨st.slots,(lb,none)::(hout++(ids.map (fun i=>(i,none))++st.heap))⟩)
    |none=>none
   |_,_=>none
  |_=>none
 |none=>none
def tr:{R:Type}→Sc R→Oo→St→List Prop→List (Nat × kV)→Po R→Tr R
 |_, .en r fz rn=>fun f st _ _ po=>match f with
  | .fin e=>match leaf L fz rn po e r st with|some c=> .ck c (.en r)|none=> .bad 1
  |_=> .bad 2
 |_, .no=>fun _ _ _ _ _=> .no
 |_, .rg x cs k=>fun f st Γ an po=>match f with
  | .at (.region _ ops dr) K=>match JB (DW P) T ops dr N L x an st with
   |some R=>match mF R.yb x.ov Γ R.its (Ns R.its cs)with
    |some c=> .ck ((.b R.ok, .b true)::(Mq R.eq++c)) (tr k (go FU (.e .normal) K) R.st Γ [] po)
    |none=> .bad 3
   |none=> .bad (4000+NW (DW P) T ops.toList (fun _=>false) (Pv x.ov) (Gl x an) (Lu x.fr) N (List.range ops.size) (qN st))
  |_=> .bad 5
 |_, .bd o q _ an' k=>fun f st Γ an po=> .bd o fun y=>tr (k y) f st (q y::Γ) (an' y++an) po
 |_, .as c d l _ k=>fun f st Γ an po=> .as c d (tr k f st (l++Γ) an po)
 |_, .it a b=>fun f st Γ an po=>match f with
  | .at (.cond c x y) K=>match Mk (uV st c)with
   |some v=> .it v (tr a (go FU (.c x) K) st ((v=true)::Γ) an po) (tr b (go FU (.c y) K) st ((v=false)::Γ) an po)
   |none=> .bad 6
  |_=> .bad 7
 |_, .tf v cs k=>fun f st Γ an po=>match f with
  | .at (.cond c x y) K=>match Mk (uV st c)with
   |some w=> .ck (match cs with|[]=>[(.b w, .b v)]|j::_=>(.p (w=v), .p (M7 Γ j))::Mh Γ j) (tr k (go FU (.c (bif v then x else y)) K) st Γ an po)
   |none=> .bad 8
  |_=> .bad 9
 |_, .fk v a b=>fun f st Γ an po=> .it v (tr a f st ((v=true)::Γ) an po) (tr b f st ((v=false)::Γ) an po)
 |_, .im s k=>fun f st Γ an po=>match yV (s.act st) (s.want st)with
  |some c=> .ck c (tr k f (s.nxt st) Γ an po)
  |none=> .bad 10
 |_, .wi j s k=>fun f st Γ an po=>match yV (s.act st) (s.want st)with
  |some c=> .ck ((.p (fact Γ j), .p s.p)::c) (tr k f (s.nxt st) Γ an po)
  |none=> .bad 18
 |_, .ul n k=>fun f st Γ an po=>match f with
  | .at (.loop c) K=>tr k (go FU (.c c) (.lo c n::K)) st Γ an po
  |_=> .bad 19
 |_, .ss k=>fun f st Γ an po=>match f with
  | .at (.scope c) K=>tr k (go FU (.c c) (.sc::K)) st Γ an po
  |_=> .bad 20
 |_, .sp s0 t u a body k=>fun f st Γ an po=>match f with
  | .at (.scope (.seq x (.seq (.label l) y))) K=>match findLabel x l with
   |none=> .sp s0 (tr a (go FU (.c x) []) st Γ an (.jN fun _=>t.at st s0)) (fun s=>tr (body s) (go FU (.c y) []) (t.at st s) Γ [] (.gt l K (t.at st) (u.at st) po)) fun z=>tr (k z) (go FU (.e .normal) K) (u.at st z) Γ [] po
   |some _=> .bad 21
  |_=> .bad 22
 |_, .rf lb sl outs w jf c k=>fun f st Γ an po=>match q,f with
  |true, .at (.rangeFunc g ps assign body) K=>match Bz P N lb sl outs w jf c g ps assign body st Γ an with
   |some (ck,e,st')=> .ck ck (tr k (go FU (.e e) K) st' Γ [] po)
   |none=> .bad 23
  |_,_=> .bad 24
 |_, .fz l k=>fun f st Γ an po=>match I7 L l (wE (kL st.slots) []) (wE (kL st.heap) []) (qN st)with
  |some (e,s1)=> .ck (Mq e) (tr k f s1 Γ an po)
  |none=> .bad 11
 |_, .jn d t a k=>fun f st Γ an po=>match f with
  | .at c K=>match K.drop d with
   | .sq y::K2=> .jn (tr a (.at c (K.take d)) st Γ an (.jn K2 (t.at st) po)) fun z=>tr (k z) (go FU (.c y) K2) (t.at st z) Γ [] po
   |_=> .bad 12
  |_=> .bad 13
 |_, .jN d t a k=>fun f st Γ an po=>match f with
  | .at c K=>match K.drop d with
   | .sq y::K2=> .jN (tr a (.at c (K.take d)) st Γ an (.jN (t.at st))) fun z=>tr (k z) (go FU (.c y) K2) (t.at st z) Γ [] po
   |_=> .bad 14
  |_=> .bad 15
 |_, .lp s0 fz rn t u body k=>fun f st Γ an po=>match f with
  | .at (.loop c) (.bl b::K2)=>match narrow L fz rn (t.at st s0) st with
   |some ck=> .ck ck (.lp s0 (fun s=>tr (body s) (go FU (.c c) []) (t.at st s) Γ [] (.lp b K2 (t.at st) (u.at st) po)) fun z=>tr (k z) (go FU (.e .normal) K2) (u.at st z) Γ [] po)
   |none=> .bad 16
  |_=> .bad 17
end
section
variable {rd:Option Nat} {q:Bool} {P:Program} {B:Base} {N:Nat} {L:List Nat} {T:List (Nat × TI)}
theorem y7 {α:Type} {l:List (Nat × α)}: ∀{ks:List Nat},∀p∈BI l ks,get l p.1=some p.2
 |[],p,h=>by simp [BI]at h
 |k::ks,p,h=>by
  unfold BI at h
  split at h
  ·rename_i x e
   rcases List.mem_cons.1 h with rfl|h
   ·exact e
   ·exact y7 p h
  ·exact y7 p h
theorem IW {Γ:List Prop} (hΓ:All Γ) {outs:List Code} {stt:Nat} {w:Option Nat} {cs:List Cs} {ck:CP} {e:Exit} (h:Hz Γ outs stt w cs=some (ck,e)) (hc:ck.ok):FI outs stt e:=by
 unfold Hz at h
 split at h
 ·cases h;exact .inl ⟨Ck.n.inj hc.1,rfl⟩
 ·cases h
  obtain⟨h1,h2⟩:=hc
  have:=BD hΓ h2
  rw [←Ck.p.inj h1]at this
  exact .inl ⟨Nat.eq_of_beq_eq_true this,rfl⟩
 ·rename_i k
  split at h
  ·rename_i o e1
   cases ho:uH o with
   |false=>rw [ho]at h;cases h
   |true=>
    rw [ho]at h
    simp only [cond_true]at h
    split at h
    ·cases h;exact .inr ⟨k,o,Ck.n.inj hc.1,e1,ho,rfl⟩
    ·cases h
     obtain⟨h1,h2⟩:=hc
     have:=BD hΓ h2
     rw [←Ck.p.inj h1]at this
     exact .inr ⟨k,o,Nat.eq_of_beq_eq_true this,e1,ho,rfl⟩
  ·cases h
theorem FZ {lb:Nat} {sl:List Nat} {outs:List Code} {w:Option Nat} {jf:Nat} {c:List Cs} {g:Operand} {ps:Array Nat} {assign body:Code} {st st':St} {Γ:List Prop} {an:List (Nat × kV)} {ck:CP} {e:Exit} {Q:Exit→St→Prop} (hΓ:All Γ)
  (h:Bz P N lb sl outs w jf c g ps assign body st Γ an=some (ck,e,st')) (hc:ck.ok) (hQ:Q e st'):jy none P B N L (.rangeFunc g ps assign body) Q st:=by
 unfold Bz at h
 split at h
 ·rename_i gv f c1 c2 e0
  unfold PO at e0
  split at e0
  ·rename_i gv' hg
   split at e0
   ·rename_i f' c1' c2' hf
    cases e0
    split at h
    ·rename_i ids res hout _
     simp only at h
     split at h
     ·rename_i hin r' stt sl' h1 h2
      split at h
      ·rename_i ck' e' h3
       cases h
       obtain⟨k1,k2,k3,k4,k5⟩:=hc
       have hfn:=lg (j:=jf) hΓ
       rw [←Ck.p.inj k3]at hfn
       have hn:get st.heap lb=none:=by
        have:=Ck.b.inj k1
        cases hh:get st.heap lb with
        |none=>rfl
        |some x=>rw [hh]at this;cases this
       have hp:ps=ps.toList.toArray:=by simp
       rw [hp]
       exact zM lb (BI st.slots sl) outs ids res hout hg hf hn (fun p hp=>y7 p hp) h1 (Ck.b.inj k2) hfn h2 (Ck.co.inj k4) (IW hΓ h3 k5) hQ
      ·cases h
     ·cases h
    ·cases h
   ·cases e0
  ·cases e0
 ·cases h
theorem HY (hrd:q=true→rd=none) (hT:lD P T) (hm:P.follows .mixedOrders=true): ∀{R:Type} (s:Sc R) {f:Oo} {st:St} {Γ:List Prop} {an:List (Nat × kV)} {po:Po R} {r:R},
  (tr q P T N L s f st Γ an po).ok→All Γ→(tr q P T N L s f st Γ an po).den=some r→MI rd P B N L f (po.Q rd P B N L r) st:=by
 intro R s
 induction s with
 |en r fz rn=>
  intro f st Γ an po r' hk hΓ hd
  unfold tr at hk hd
  cases f with
  |fin e=>
   simp only at hk hd
   cases hl:leaf L fz rn po e r st with
   |none=>rw [hl]at hk;exact hk.elim
   |some c=>
    rw [hl]at hk hd
    cases hd
    exact KJ hl hk.1
  | «at» c K=>exact hk.elim
  |bad=>exact hk.elim
 |no=>intro f st Γ an po r' hk hΓ hd;cases hd
 |rg x cs k ih=>
  intro f st Γ an po r' hk hΓ hd
  unfold tr at hk hd
  cases f with
  |fin e=>exact hk.elim
  |bad=>exact hk.elim
  | «at» c K=>
   cases c with
   |region id ops dr=>
    simp only at hk hd
    cases hR:JB (DW P) T ops dr N L x an st with
    |none=>rw [hR]at hk;exact hk.elim
    |some R=>
     rw [hR]at hk hd
     simp only at hk hd
     cases hc:mF R.yb x.ov Γ R.its (Ns R.its cs)with
     |none=>rw [hc]at hk;exact hk.elim
     |some c=>
      rw [hc]at hk hd
      simp only at hk hd
      obtain⟨⟨h1,h2⟩,hk⟩:=hk
      rw [CP.gu]at h2
      refine Jo hT hm hR (Ck.b.inj h1) (vU h2.1) (DI hΓ hc h2.2) ?_
      exact go_ok (n:=FU) (x:= .e .normal) (ih hk hΓ hd)
   |_=>exact hk.elim
 |bd o q h an' k ih=>
  intro f st Γ an po r' hk hΓ hd
  unfold tr at hk hd
  cases o with
  |none=>cases hd
  |some y=>exact ih y (hk y) ⟨h y rfl,hΓ⟩ hd
 |as c d l hl k ih=>
  intro f st Γ an po r' hk hΓ hd
  unfold tr at hk hd
  exact H9 (c:=c) hd fun hc hd=>ih hk (aM.2 ⟨hl hc,hΓ⟩) hd
 |it a b iha ihb=>
  intro f st Γ an po r' hk hΓ hd
  unfold tr at hk hd
  cases f with
  |fin e=>exact hk.elim
  |bad=>exact hk.elim
  | «at» c K=>
   cases c with
   |cond c x y=>
    simp only at hk hd
    cases hv:Mk (uV st c)with
    |none=>rw [hv]at hk;exact hk.elim
    |some v=>
     rw [hv]at hk hd
     simp only at hk hd
     refine p8 v (BK hv) (fun e=> ?_) fun e=> ?_
     ·refine go_ok (n:=FU) (x:= .c x) (iha hk.1 ⟨e,hΓ⟩ ?_)
      have hd':(bif v then _ else _)=some r':=hd
      rw [e]at hd';subst e;exact hd'
     ·refine go_ok (n:=FU) (x:= .c y) (ihb hk.2 ⟨e,hΓ⟩ ?_)
      have hd':(bif v then _ else _)=some r':=hd
      rw [e]at hd';subst e;exact hd'
   |_=>exact hk.elim
 |tf v cs k ih=>
  intro f st Γ an po r' hk hΓ hd
  unfold tr at hk hd
  cases f with
  |fin e=>exact hk.elim
  |bad=>exact hk.elim
  | «at» c K=>
   cases c with
   |cond c x y=>
    simp only at hk hd
    cases hv:Mk (uV st c)with
    |none=>rw [hv]at hk;exact hk.elim
    |some w=>
     rw [hv]at hk hd
     simp only at hk hd
     have hw:w=v:=by
      cases cs with
      |nil=>exact Ck.b.inj hk.1.1
      |cons j _=>
       obtain⟨h1,h2⟩:=hk.1
       have:=BD hΓ h2
       exact Ck.p.inj h1 ▸ this
     subst hw
     have:=go_ok (n:=FU) (x:= .c _) (ih hk.2 hΓ hd)
     refine p8 w (BK hv) (fun e=> ?_) fun e=> ?_
     ·subst e;exact this
     ·subst e;exact this
   |_=>exact hk.elim
 |fk v a b iha ihb=>
  intro f st Γ an po r' hk hΓ hd
  unfold tr at hk hd
  have hd':(bif v then _ else _)=some r':=hd
  cases v with
  |true=>exact iha hk.1 ⟨rfl,hΓ⟩ hd'
  |false=>exact ihb hk.2 ⟨rfl,hΓ⟩ hd'
 |im s k ih=>
  intro f st Γ an po r' hk hΓ hd
  unfold tr at hk hd
  cases hz:yV (s.act st) (s.want st)with
  |none=>rw [hz]at hk;exact hk.elim
  |some c=>
   rw [hz]at hk hd
   have hi:=s.ok B N L st (y8 hz hk.1)
   have:=ih hk.2 hΓ hd
   cases f with
   | «at» c K=>exact og hi this
   |fin e=>exact QI.imp hi this
   |bad=>exact this
 |wi j s k ih=>
  intro f st Γ an po r' hk hΓ hd
  unfold tr at hk hd
  cases hz:yV (s.act st) (s.want st)with
  |none=>rw [hz]at hk;exact hk.elim
  |some c=>
   rw [hz]at hk hd
   have hp:s.p:=Ck.p.inj hk.1.1 ▸ lg hΓ
   have hi:=s.ok hp B N L st (y8 hz hk.1.2)
   have:=ih hk.2 hΓ hd
   cases f with
   | «at» c K=>exact og hi this
   |fin e=>exact QI.imp hi this
   |bad=>exact this
 |ul n k ih=>
  intro f st Γ an po r' hk hΓ hd
  unfold tr at hk hd
  cases f with
  |fin e=>exact hk.elim
  |bad=>exact hk.elim
  | «at» c K=>
   cases c with
   |loop c=>
    have:=go_ok (n:=FU) (x:= .c c) (K:= .lo c n::K) (ih hk hΓ hd)
    exact Gg (n+1) this
   |_=>exact hk.elim
 |ss k ih=>
  intro f st Γ an po r' hk hΓ hd
  unfold tr at hk hd
  cases f with
  |fin e=>exact hk.elim
  |bad=>exact hk.elim
  | «at» c K=>
   cases c with
   |scope c=>
    have:=go_ok (n:=FU) (x:= .c c) (K:= .sc::K) (ih hk hΓ hd)
    exact El this
   |_=>exact hk.elim
 |sp s0 t u a body k iha ihb ihk=>
  intro f st Γ an po r' hk hΓ hd
  unfold tr at hk hd
  split at hk
  ·rename_i x l y K
   simp only at hd
   split at hk
   ·rename_i hfl
    rw [hfl]at hd
    simp only at hd
    obtain⟨hka,hkb,hkk⟩:=hk
    unfold Tr.den at hd
    rw [Option.bind_eq_some_iff]at hd
    obtain⟨un,ha,hd⟩:=hd
    rw [Option.bind_eq_some_iff]at hd
    obtain⟨o,ho,hd⟩:=hd
    have h1:=go_ok (n:=FU) (x:= .c x) (K:=[]) (iha hka hΓ ha)
    have hc:jy rd P B N L (.scope (.seq x (.seq (.label l) y))) (fun e st1=>QI B N L ((Po.gt l K (t.at st) (u.at st) po).Q rd P B N L (.done o)) e st1) st:=by
     have hb: ∀s f,(tr q P T N L (body s) (go FU (.c y) []) (t.at st s) Γ [] (.gt l K (t.at st) (u.at st) po)).den=some f→jy rd P B N L y (GQ l (t.at st) (fun r e st1=>QI B N L ((Po.gt l K (t.at st) (u.at st) po).Q rd P B N L (.done r)) e st1) f) (t.at st s):=fun s fl hs=>by
      refine lH (eU (go_ok (n:=FU) (x:= .c y) (K:=[]) (ihb s (hkb s) hΓ hs)) fun e st1 hq=> ?_)
      obtain⟨s',hi,hq⟩:=hq
      refine⟨s',hi, ?_⟩
      cases fl with
      |next s2=>exact hq
      |done r=>
       refine⟨?_,s', .refl,hq⟩
       cases r with
       |brk z=>obtain⟨rfl,_⟩:=hq;exact fun _=>Exit.noConfusion
       |ret x=>exact hq.1
     refine Eb (rest:= .seq .skip y) l (by simp [findLabel,hfl]) (t.at st) (fun(r:Ex _ _) e st1=>QI B N L ((Po.gt l K (t.at st) (u.at st) po).Q rd P B N L (.done r)) e st1) ho (fun s fl hs=>uO (Cr (hb s fl hs))) fun fl hs=> ?_
     refine Ip _ h1 fun e st' hh=> ?_
     obtain⟨s',hi,hq⟩:=hh
     obtain⟨rfl,rfl⟩:=hq
     exact og hi (uO (Aa (hb s0 fl hs)))
    refine eU hc fun e st1 hq=> ?_
    obtain⟨s',hi,hq⟩:=hq
    refine iZ hi ?_
    cases o with
    |brk z=>
     obtain⟨rfl,rfl⟩:=hq
     exact go_ok (n:=FU) (x:= .e .normal) (ihk z (hkk z) hΓ hd)
    |ret x=>
     cases hd
     exact hq.2.2
   ·exact hk.elim
  ·exact hk.elim
 |rf lb sl outs w jf c k ih=>
  intro f st Γ an po r' hk hΓ hd
  unfold tr at hk hd
  split at hk
  ·rename_i g ps assign body K
   simp only at hd
   cases hs:Bz P N lb sl outs w jf c g ps assign body st Γ an with
   |none=>rw [hs]at hk;exact hk.elim
   |some x=>
    obtain⟨ck,e,st'⟩:=x
    rw [hs]at hk hd
    obtain rfl:=hrd rfl
    exact FZ hΓ hs hk.1 (go_ok (n:=FU) (x:= .e e) (ih hk.2 hΓ hd))
  ·exact hk.elim
 |fz l k ih=>
  intro f st Γ an po r' hk hΓ hd
  unfold tr at hk hd
  cases hz:I7 L l (wE (kL st.slots) []) (wE (kL st.heap) []) (qN st)with
  |none=>rw [hz]at hk;exact hk.elim
  |some c=>
   obtain⟨e,s1⟩:=c
   rw [hz]at hk hd
   obtain⟨ren,hz⟩:=Aj hz
   obtain⟨ts,cs',hf,hcs⟩:=nD hz (vU hk.1) [] trivial
   have hi:jQ B N L st s1:=jQ.fin _ ts hf hcs
   have:=ih hk.2 hΓ hd
   cases f with
   | «at» c K=>exact og hi this
   |fin e=>exact QI.imp hi this
   |bad=>exact this
 |jn d t a k iha ihk=>
  intro f st Γ an po r' hk hΓ hd
  unfold tr at hk hd
  cases f with
  |fin e=>exact hk.elim
  |bad=>exact hk.elim
  | «at» c K=>
   simp only at hk hd
   cases hK:K.drop d with
   |nil=>rw [hK]at hk;exact hk.elim
   |cons x K2=>
    cases x with
    |bl i=>rw [hK]at hk;exact hk.elim
    |lo _ _=>rw [hK]at hk;exact hk.elim
    |sc=>rw [hK]at hk;exact hk.elim
    |sq y=>
     rw [hK]at hk hd
     simp only at hk hd
     have hKe:K=K.take d++(.sq y::K2):=by rw [←hK];exact(List.take_append_drop d K).symm
     unfold Tr.den at hd
     rw [Option.bind_eq_some_iff]at hd
     obtain⟨o,ho,hd⟩:=hd
     have h1:=iha hk.1 hΓ ho
     show jy rd P B N L c (post rd P B N L K (QI B N L (po.Q rd P B N L r'))) st
     rw [hKe]
     refine eU h1 fun e st1 hq=>iV (K2:= .sq y::K2) (fun e st1 hq=> ?_) hq
     obtain⟨s',hi,hq⟩:=hq
     refine iZ (K:= .sq y::K2) hi ?_
     cases o with
     |brk z=>
      obtain⟨rfl,rfl⟩:=hq
      exact go_ok (n:=FU) (x:= .c y) (ihk z (hk.2 z) hΓ hd)
     |ret v=>
      cases hd
      obtain⟨hne,hq⟩:=hq
      cases e with
      |normal=>exact absurd rfl hne
      |_=>exact hq
 |jN d t a k iha ihk=>
  intro f st Γ an po r' hk hΓ hd
  unfold tr at hk hd
  cases f with
  |fin e=>exact hk.elim
  |bad=>exact hk.elim
  | «at» c K=>
   simp only at hk hd
   cases hK:K.drop d with
   |nil=>rw [hK]at hk;exact hk.elim
   |cons x K2=>
    cases x with
    |bl i=>rw [hK]at hk;exact hk.elim
    |lo _ _=>rw [hK]at hk;exact hk.elim
    |sc=>rw [hK]at hk;exact hk.elim
    |sq y=>
     rw [hK]at hk hd
     simp only at hk hd
     have hKe:K=K.take d++(.sq y::K2):=by rw [←hK];exact(List.take_append_drop d K).symm
     obtain⟨z,ho,hd⟩: ∃o,(tr q P T N L a (.at c (K.take d)) st Γ an (.jN (t.at st))).den=some o∧(tr q P T N L (k o) (go FU (.c y) K2) (t.at st o) Γ [] po).den=some r':=by
      have hd':Option.bind _ _=some r':=hd
      rw [Option.bind_eq_some_iff]at hd'
      exact hd'
     have h1:=iha hk.1 hΓ ho
     show jy rd P B N L c (post rd P B N L K (QI B N L (po.Q rd P B N L r'))) st
     rw [hKe]
     refine eU h1 fun e st1 hq=>iV (K2:= .sq y::K2) (fun e st1 hq=> ?_) hq
     obtain⟨s',hi,hq⟩:=hq
     refine iZ (K:= .sq y::K2) hi ?_
     obtain⟨rfl,rfl⟩:=hq
     exact go_ok (n:=FU) (x:= .c y) (ihk z (hk.2 z) hΓ hd)
 |lp s0 fz rn t u body k ihb ihk=>
  intro f st Γ an po r' hk hΓ hd
  unfold tr at hk hd
  cases f with
  |fin e=>exact hk.elim
  |bad=>exact hk.elim
  | «at» c K=>
   cases c with
   |loop c=>
    cases K with
    |nil=>exact hk.elim
    |cons x K2=>
     cases x with
     |sq y=>exact hk.elim
     |lo _ _=>exact hk.elim
     |sc=>exact hk.elim
     |bl b=>
      simp only at hk hd
      cases hn:narrow L fz rn (t.at st s0) st with
      |none=>rw [hn]at hk;exact hk.elim
      |some ck=>
       rw [hn]at hk hd
       simp only at hk hd
       obtain⟨hk0,hkb,hkk⟩:=hk
       unfold Tr.den Tr.den at hd
       rw [Option.bind_eq_some_iff]at hd
       obtain⟨o,ho,hd⟩:=hd
       refine og (ku hn hk0) ?_
       refine eU (Gq (t.at st) (fun(r:Ex _ _) e st1=>QI B N L ((Po.lp b K2 (t.at st) (u.at st) po).Q rd P B N L (.done r)) e st1) ho fun s fl hs=> ?_) fun e st1 hq=> ?_
       ·refine lH (eU (go_ok (n:=FU) (x:= .c c) (K:=[]) (ihb s (hkb s) hΓ hs)) fun e st1 hq=> ?_)
        obtain⟨s',hi,hq⟩:=hq
        refine⟨s',hi, ?_⟩
        cases fl with
        |next s2=>exact hq
        |done r=>
         refine⟨?_,s', .refl,hq⟩
         cases r with
         |brk z=>obtain⟨rfl,_⟩:=hq;exact Exit.noConfusion
         |ret x=>exact hq.1
       ·obtain⟨s',hi,hq⟩:=hq
        refine iZ (K:= .bl b::K2) hi ?_
        cases o with
        |brk z=>
         obtain⟨rfl,rfl⟩:=hq
         show(bif Nat.beq b b then _ else _)
         rw [Nat.beq_refl]
         exact go_ok (n:=FU) (x:= .e .normal) (ihk z (hkk z) hΓ hd)
        |ret x=>
         cases hd
         obtain⟨h1,h2,hq⟩:=hq
         cases e with
         |normal=>exact absurd rfl h1
         |exit i=>
          show(bif Nat.beq i b then _ else _)
          rw [kX (fun e=>h2 (by rw [e]))]
          exact hq
         |goto l=>exact hq
         |ret=>exact hq
         |panic v=>exact hq
         |outgrown=>exact hq
   |_=>exact hk.elim
end
structure gG (P:Program) (f:Nat) (args:List SV) (hin:List (Nat × Option Ob)) {R:Type} (res:R→TV) (hout:R→List (Nat × Option Ob)) (o:Option R):Prop where
 run: ∀{r:R},o=some r→Fn P f args hin (res r) (hout r)
instance {P:Program} {f:Nat} {args:List SV} {hin:List (Nat × Option Ob)} {R:Type} {res:R→TV} {hout:R→List (Nat × Option Ob)} {o:Option R}:CoeFun (gG P f args hin res hout o) (fun _=> ∀{r:R},o=some r→Fn P f args hin (res r) (hout r)):=⟨fun h=>h.run⟩
section
variable {P:Program} {T:List (Nat × TI)}
theorem iP (hT:lD P T) (hm:P.follows .mixedOrders=true) {f:Nat} {fn:Func} {args:List SV} {hin:List (Nat × Option Ob)} {R:Type} {res:R→TV} {hout:R→List (Nat × Option Ob)} {o:Option R} (hf:P.funcs[f]? =some fn) (s:Sc R)
  (hb:fn.body=some (rQ fn):=by kernel_rfl) (hn:(fn.name== "runtime.NumGoroutine")=false:=by kernel_rfl)
  (hs:(tr true P T (args.length+(fn.ntmps - args.length)) (hin.map (·.1)) s (go FU (.c (rQ fn)) []) ⟨slotsOf 0 args,hin⟩ [] [] (.fn T fn.results.toList res hout)).side true=(tr true P T (args.length+(fn.ntmps - args.length)) (hin.map (·.1)) s (go FU (.c (rQ fn)) []) ⟨slotsOf 0 args,hin⟩ [] [] (.fn T fn.results.toList res hout)).side false:=by kernel_rfl)
  (hd:(tr true P T (args.length+(fn.ntmps - args.length)) (hin.map (·.1)) s (go FU (.c (rQ fn)) []) ⟨slotsOf 0 args,hin⟩ [] [] (.fn T fn.results.toList res hout)).den=o:=by kernel_rfl):gG P f args hin res hout o:=by
 refine⟨fun{r} hr=> ?_⟩
 refine Ir hT hf hb hn fun B=> ?_
 have h:=go_ok (n:=FU) (x:= .c (rQ fn)) (K:=[]) (HY (rd:=none) (q:=true) (B:=B) (fun _=>rfl) hT hm s (Tr.qB hs) trivial (hd.trans hr))
 refine lH (eU h fun e st hq=> ?_)
 exact hq
theorem Il: ∀{l:CP},l.map (·.1)=l.map (·.2)→l.ok
 |[],_=>trivial
 |e::l,h=>by
  simp only [List.map_cons,List.cons.injEq]at h
  exact⟨h.1,Il h.2⟩
theorem kU {f:Nat} {args:List SV} {hin:List (Nat × Option Ob)} {R:Type} {res:R→TV} {hout:R→List (Nat × Option Ob)} {o:Option R} (l:List (Nat × Nat)) (h:gG P f args hin res hout o):
  gG P f (args.map (SV.ren (swp l))) (pQ (swp l) hin) (fun r=>(res r).ren (swp l)) (fun r=>pQ (swp l) (hout r)) o:=⟨fun hr=>Fn.LQ l (h hr) rfl rfl rfl rfl⟩
theorem KD {f:Nat} {args:List SV} {hin:List (Nat × Option Ob)} {R:Type} {res:R→TV} {hout:R→List (Nat × Option Ob)} {o:Option R} (args':List SV) (h:gG P f args hin res hout o) (h1:(pY args args').1.map (·.1)=(pY args args').1.map (·.2):=by kernel_rfl) (h2:(pY args args').2=args:=by kernel_rfl):
  gG P f args' hin res hout o:=⟨fun hr=>Fn.le (h hr) (by have:=yD (Il h1);rwa [h2]at this)⟩
structure Mr (P:Program) (b:Nat) (args:List SV) (hin:List (Nat × Option Ob)) {R:Type} (res:R→TV) (hout:R→List (Nat × Option Ob)) (o:Option R):Prop where
 run: ∀{r:R},o=some r→Yl P b args hin (res r) (hout r)
instance {b:Nat} {args:List SV} {hin:List (Nat × Option Ob)} {R:Type} {res:R→TV} {hout:R→List (Nat × Option Ob)} {o:Option R}:CoeFun (Mr P b args hin res hout o) (fun _=> ∀{r:R},o=some r→Yl P b args hin (res r) (hout r)):=⟨fun h=>h.run⟩
theorem Qi {b:Nat} {args:List SV} {hin:List (Nat × Option Ob)} {R:Type} {res:R→TV} {hout:R→List (Nat × Option Ob)} {o:Option R} (l:List (Nat × Nat)) (h:Mr P b args hin res hout o):
  Mr P (swp l b) (args.map (SV.ren (swp l))) (pQ (swp l) hin) (fun r=>(res r).ren (swp l)) (fun r=>pQ (swp l) (hout r)) o:=⟨fun hr=>Yl.LQ l (h hr) rfl rfl rfl rfl rfl⟩
def lZ (lb:Nat) (rec:fE) (args:List SV) (hin:List (Nat × Option Ob)):St:=match get hin lb with
 |some (some (.loop _ _ sl))=> ⟨oU rec.ps args++sl,hin⟩
 |_=> ⟨[],[]⟩
def HV (lb:Nat) (st:St):St:=⟨st.slots,sP lb 1 st.heap⟩
def Be (_:fE) (x:Option (Option Ob)):List Ck:=match x with
 |some (some (.loop r 0 sl))=>[.ob (some (.loop r 0 sl))]
 |_=>[.b true]
def uD (rec:fE) (x:Option (Option Ob)):List Ck:=match x with
 |some (some (.loop _ 0 sl))=>[.ob (some (.loop rec 0 sl))]
 |_=>[.b false]
theorem Af {rec:fE} {x:Option (Option Ob)} (h:Be rec x=uD rec x): ∃sl,x=some (some (.loop rec 0 sl)):=by
 unfold Be uD at h
 split at h
 ·simp only [List.cons.injEq,Ck.ob.injEq,Option.some.injEq,Ob.loop.injEq,and_true]at h
  subst h;exact⟨_,rfl⟩
 ·simp at h
theorem Qg (hT:lD P T) (hm:P.follows .mixedOrders=true) {lb:Nat} (rec:fE) {args:List SV} {hin:List (Nat × Option Ob)} {R:Type} {res:R→TV} {hout:R→List (Nat × Option Ob)} {o:Option R} (t:Tg Unit) (a:Sc Unit) (s:Sc R)
  (h0:Be rec (get hin lb)=uD rec (get hin lb):=by kernel_rfl) (h1:Be rec (get (t.at (lZ lb rec args hin) ()).heap lb)=uD rec (get (t.at (lZ lb rec args hin) ()).heap lb):=by kernel_rfl)
  (hb:(Nat.beq rec.ps.length args.length && (oo rec.ps && rec.ps.all (fun t=>Nat.blt t rec.N)))=true:=by kernel_rfl)
  (ha:(tr false P T rec.N (hin.map (·.1)) a (go FU (.c rec.assign) []) (lZ lb rec args hin) [] [] (.jN (t.at (lZ lb rec args hin)))).side true=(tr false P T rec.N (hin.map (·.1)) a (go FU (.c rec.assign) []) (lZ lb rec args hin) [] [] (.jN (t.at (lZ lb rec args hin)))).side false:=by kernel_rfl)
  (had:(tr false P T rec.N (hin.map (·.1)) a (go FU (.c rec.assign) []) (lZ lb rec args hin) [] [] (.jN (t.at (lZ lb rec args hin)))).den=some ():=by kernel_rfl)
  (hs:(tr false P T rec.N (hin.map (·.1)) s (go FU (.c rec.body) []) (HV lb (t.at (lZ lb rec args hin) ())) [] [] (.yl lb rec res hout)).side true=(tr false P T rec.N (hin.map (·.1)) s (go FU (.c rec.body) []) (HV lb (t.at (lZ lb rec args hin) ())) [] [] (.yl lb rec res hout)).side false:=by kernel_rfl)
  (hd:(tr false P T rec.N (hin.map (·.1)) s (go FU (.c rec.body) []) (HV lb (t.at (lZ lb rec args hin) ())) [] [] (.yl lb rec res hout)).den=o:=by kernel_rfl):Mr P lb args hin res hout o:=by
 refine⟨fun{r} hr=> ?_⟩
 obtain⟨sl,g0⟩:=Af h0
 obtain⟨sl2,g1⟩:=Af h1
 simp only [Bool.and_eq_true]at hb
 have e0:lZ lb rec args hin=⟨oU rec.ps args++sl,hin⟩:=by unfold lZ;rw [g0]
 refine Jl (r:=rec) (sl:=sl) (sl1:=(t.at (lZ lb rec args hin) ()).slots) (h1:=(t.at (lZ lb rec args hin) ()).heap) (sl2:=sl2) g0 (Nat.eq_of_beq_eq_true hb.1) hb.2.1 hb.2.2 (fun rd B=> ?_) g1 fun rd B=> ?_
 ·have h:=go_ok (n:=FU) (x:= .c rec.assign) (K:=[]) (HY (rd:=rd) (q:=false) (B:=B) (fun h=>by cases h) hT hm a (Tr.qB ha) trivial had)
  rw [←e0]
  exact lH (eU h fun e st hq=>by
   obtain⟨s',hi,hq⟩:=hq
   exact⟨s',hi,hq.1,hq.2⟩)
 ·have h:=go_ok (n:=FU) (x:= .c rec.body) (K:=[]) (HY (rd:=rd) (q:=false) (B:=B) (fun h=>by cases h) hT hm s (Tr.qB hs) trivial (hd.trans hr))
  exact lH (eU h fun e st hq=>hq)
end
namespace Sc
variable {P:Program}
def cy {b:Nat} {args:List SV} {hin:List (Nat × Option Ob)} {R T:Type} {res:T→TV} {hout:T→List (Nat × Option Ob)} {o:Option T} (i:Nat) (h:Mr P b args hin res hout o) (k:T→Sc R):Sc R:=
 .bd o (fun y=>Yl P b args hin (res y) (hout y)) (fun _ hy=>h hy) (fun y=>[(i, .call (kL hin) (res y) (hout y))]) k
def cl {f:Nat} {args:List SV} {hin:List (Nat × Option Ob)} {R T:Type} {res:T→TV} {hout:T→List (Nat × Option Ob)} {o:Option T} (i:Nat) (h:gG P f args hin res hout o) (k:T→Sc R):Sc R:=
 .bd o (fun y=>Fn P f args hin (res y) (hout y)) (fun _ hy=>h hy) (fun y=>[(i, .call (kL hin) (res y) (hout y))]) k
def cr {f:Nat} {args:List SV} {hin:List (Nat × Option Ob)} {R T:Type} {res:T→TV} {hout:T→List (Nat × Option Ob)} {o:Option T} (i:Nat) (h:gG P f args hin res hout o) (k:T→Sc R):Sc R:=
 .bd o (fun y=>Fn P f args hin (res y) (hout y)) (fun _ hy=>h hy) (fun y=>[(i, .callR (kL hin) (res y))]) k
def cg {f:Nat} {args:List SV} {hin:List (Nat × Option Ob)} {R T:Type} [Inhabited T] {res:T→TV} {hout:T→List (Nat × Option Ob)} {o:Option T} (i:Nat) (g:List (Bool × Bool)) (h:gG P f args hin res hout o) (k:T→Sc R):Sc R:=
 .bd (bif gB g then o else some default) (fun y=>gB g=true→Fn P f args hin (res y) (hout y)) (fun _ hy hg=>h (La hy hg)) (fun y=>[(i, .call (kL hin) (res y) (hout y))]) k
def Qb {f:Nat} {args:List SV} {hin:List (Nat × Option Ob)} {R T:Type} [Inhabited T] {res:T→TV} {hout:T→List (Nat × Option Ob)} {o:Option T} (i:Nat) (g:List (Bool × Bool)) (h:gG P f args hin res hout o) (k:T→Sc R):Sc R:=
 .bd (bif gB g then o else some default) (fun y=>gB g=true→Fn P f args hin (res y) (hout y)) (fun _ hy hg=>h (La hy hg)) (fun y=>[(i, .callR (kL hin) (res y))]) k
section
variable {R:Type} (a b c d e f:Prop) [Decidable a] [Decidable b] [Decidable c] [Decidable d] [Decidable e] [Decidable f]
def a1 (k:Sc R):Sc R:= .as a inferInstance [a] (fun h=> ⟨h,trivial⟩) k
def a2 (k:Sc R):Sc R:= .as (a∧b) inferInstance [a,b] (fun h=> ⟨h.1,h.2,trivial⟩) k
def a3 (k:Sc R):Sc R:= .as (a∧b∧c) inferInstance [a,b,c] (fun h=> ⟨h.1,h.2.1,h.2.2,trivial⟩) k
def a4 (k:Sc R):Sc R:= .as (a∧b∧c∧d) inferInstance [a,b,c,d] (fun h=> ⟨h.1,h.2.1,h.2.2.1,h.2.2.2,trivial⟩) k
def a5 (k:Sc R):Sc R:= .as (a∧b∧c∧d∧e) inferInstance [a,b,c,d,e] (fun h=> ⟨h.1,h.2.1,h.2.2.1,h.2.2.2.1,h.2.2.2.2,trivial⟩) k
def a6 (k:Sc R):Sc R:= .as (a∧b∧c∧d∧e∧f) inferInstance [a,b,c,d,e,f] (fun h=> ⟨h.1,h.2.1,h.2.2.1,h.2.2.2.1,h.2.2.2.2.1,h.2.2.2.2.2,trivial⟩) k
end
def rs {R:Type}:Nat→Sc R→Sc R
 |0,k=>k
 |n+1,k=> .rg {} [] (rs n k)
def r {R:Type} (k:Sc R):Sc R:= .rg {} [] k
def e {R:Type} (x:R):Sc R:= .en x [] []
def t {R:Type} (k:Sc R):Sc R:= .tf true [] k
def f {R:Type} (k:Sc R):Sc R:= .tf false [] k
end Sc
def Cs.e {α:Type} (x:α):Cs:= .pf ⟨x=x,rfl⟩
def Cs.t (j:Nat) (i:Int) (n:Nat):Cs:= .dv j ⟨0≤i∧i<(n:Int),i.toNat<n,toNat_lt⟩
def Cs.tg (j:Nat) (g:List (Bool × Bool)) (i:Int) (n:Nat):Cs:= .dv j ⟨gB g=true→0≤i∧i<(n:Int),gB g=true→i.toNat<n,fun h q=>toNat_lt (h q)⟩
def A9 (b n:Nat):CV→CV
 | .own b' nn m=>bif Nat.beq b' b then .own b' nn n else .own b' nn m
 |c=>c
def PG (b n:Nat):SV→SV
 | .one c=> .one (A9 b n c)
 | .agg cs=> .agg (cs.map (A9 b n))
def LG (b n:Nat):TV→TV
 | .v s=> .v (PG b n s)
 |t=>t
def Lh (b n k:Nat):Option Ob→Option Ob
 |some (.cells E cs)=>some (.cells E (cs.map (A9 b n)))
 |some (.arr E e m el)=>bif Nat.beq k b then some (.arr E e n el)else some (.arr E e m el)
 |some (.rows E e m el ov)=>bif Nat.beq k b then some (.rows E e n el ov)else some (.rows E e m el ov)
 |o=>o
def Me (b:Nat):CV→List Nat
 | .own b' _ m=>bif Nat.beq b' b then [m]else []
 |_=>[]
def Qa (b:Nat) (s:SV):List Nat:=(cellsOf s).flatMap (Me b)
def Pk (b:Nat):TV→List Nat
 | .v s=>Qa b s
 |_=>[]
def M4 (b k:Nat):Option Ob→List Nat
 |some (.cells _ cs)=>cs.flatMap (Me b)
 |some (.arr _ _ m _)=>bif Nat.beq k b then [m]else []
 |some (.rows _ _ m _ _)=>bif Nat.beq k b then [m]else []
 |_=>[]
def Ky (b:Nat) (st:St):List Nat:=(st.slots.flatMap fun p=>Pk b p.2)++st.heap.flatMap fun p=>M4 b p.1 p.2
theorem Fv {b n:Nat} {c:CV} (h: ∀x∈Me b c,x=n):A9 b n c=c:=by
 cases c<;>try rfl
 rename_i b' nn m
 simp only [Me]at h
 simp only [A9]
 cases hb:Nat.beq b' b with
 |true=>rw [hb]at h;rw [h m (List.mem_singleton.2 rfl)];rfl
 |false=>rfl
theorem AZ {b n:Nat}: ∀{cs:List CV},(∀x∈cs.flatMap (Me b),x=n)→cs.map (A9 b n)=cs
 |[],_=>rfl
 |c::cs,h=>by
  rw [List.map_cons,Fv (fun x hx=>h x (by rw [List.flatMap_cons];exact List.mem_append_left _ hx)),AZ (fun x hx=>h x (by rw [List.flatMap_cons];exact List.mem_append_right _ hx))]
theorem Kz {b n:Nat} {t:TV} (h: ∀x∈Pk b t,x=n):LG b n t=t:=by
 cases t with
 |fK l=>rfl
 |v s=>
  cases s with
  |one c=>show TV.v (.one (A9 b n c))=_;rw [Fv (fun x hx=>h x (by show x∈[c].flatMap (Me b);simpa using hx))]
  |agg cs=>
   have:=AZ (cs:=cs) h
   show TV.v (.agg (cs.map (A9 b n)))=_
   rw [this]
theorem Ko {b n k:Nat} {o:Option Ob} (h: ∀x∈M4 b k o,x=n):Lh b n k o=o:=by
 cases o with
 |none=>rfl
 |some o=>
  cases o<;>try rfl
  ·rename_i E cs
   have:=AZ (cs:=cs) h
   show some (Ob.cells E (cs.map (A9 b n)))=_
   rw [this]
  ·simp only [M4]at h
   show(bif Nat.beq k b then _ else _)=_
   cases hb:Nat.beq k b with
   |true=>rw [hb]at h;rw [h _ (List.mem_singleton.2 rfl)];rfl
   |false=>rfl
  ·simp only [M4]at h
   show(bif Nat.beq k b then _ else _)=_
   cases hb:Nat.beq k b with
   |true=>rw [hb]at h;rw [h _ (List.mem_singleton.2 rfl)];rfl
   |false=>rfl
def KN (b n:Nat) (st:St):St:=⟨st.slots.map fun p=>(p.1,LG b n p.2),st.heap.map fun p=>(p.1,Lh b n p.1 p.2)⟩
theorem Hl {b n:Nat} {st:St} (h: ∀x∈Ky b st,x=n):KN b n st=st:=by
 obtain⟨sl,hp⟩:=st
 have h1: ∀{l:List (Nat × TV)},(∀x∈l.flatMap fun p=>Pk b p.2,x=n)→(l.map fun p=>(p.1,LG b n p.2))=l:=by
  intro l
  induction l with
  |nil=>intro _;rfl
  |cons p l ih=>intro h;rw [List.map_cons,ih (fun x hx=>h x (by rw [List.flatMap_cons];exact List.mem_append_right _ hx)),Kz (fun x hx=>h x (by rw [List.flatMap_cons];exact List.mem_append_left _ hx))]
 have h2: ∀{l:List (Nat × Option Ob)},(∀x∈l.flatMap fun p=>M4 b p.1 p.2,x=n)→(l.map fun p=>(p.1,Lh b n p.1 p.2))=l:=by
  intro l
  induction l with
  |nil=>intro _;rfl
  |cons p l ih=>intro h;rw [List.map_cons,ih (fun x hx=>h x (by rw [List.flatMap_cons];exact List.mem_append_right _ hx)),Ko (fun x hx=>h x (by rw [List.flatMap_cons];exact List.mem_append_left _ hx))]
 show St.mk _ _=_
 rw [h1 (fun x hx=>h x (List.mem_append_left _ hx)),h2 (fun x hx=>h x (List.mem_append_right _ hx))]
def IS.ln (b n m:Nat) (h:n=m):IS where
 act st:=(Ky b st).map .n
 want st:=(Ky b st).map fun _=> .n n
 nxt st:=KN b m st
 ok B N L st hs:=by
  subst h
  rw [Hl]
  ·exact .refl
  ·revert hs
   generalize Ky b st=l
   induction l with
   |nil=>intro _ x hx;simp at hx
   |cons y l ih=>
    intro hs x hx
    simp only [List.map_cons,List.cons.injEq,Ck.n.injEq]at hs
    rcases List.mem_cons.1 hx with rfl|hx
    ·exact hs.1
    ·exact ih hs.2 x hx
def IS.ll {α:Type} (b:Nat) (l m:List α) (h:l.length=m.length:=by simp only [List.length_set,List.length_append,List.length_cons,List.length_nil,List.length_replicate,List.length_drop]):IS:= .ln b _ _ h
def IS.us (t:Nat) (x y:TV) (h:vo x y):IS where
 act st:=match get st.slots t with|some v=>[.tv v, .b true]|none=>[.tv x, .b false]
 want _:=[.tv x, .b true]
 nxt st:=⟨wV t y st.slots,st.heap⟩
 ok B N L st hs:=by
  cases hg:get st.slots t with
  |none=>rw [hg]at hs;simp at hs
  |some v=>
   rw [hg]at hs
   simp only [List.cons.injEq,Ck.tv.injEq,and_true]at hs
   subst hs
   exact Sg.us t y hg h
def IS.uh (b:Nat) (x y:Option Ob) (h:Fu x y):IS where
 act st:=match get st.heap b with|some v=>[.hp [(b,v)], .b true]|none=>[.b false]
 want _:=[.hp [(b,x)], .b true]
 nxt st:=⟨st.slots,wV b y st.heap⟩
 ok B N L st hs:=by
  cases hg:get st.heap b with
  |none=>rw [hg]at hs;simp at hs
  |some v=>
   rw [hg]at hs
   simp only [List.cons.injEq,Ck.hp.injEq,Prod.mk.injEq,true_and,and_true]at hs
   subst hs
   exact Sg.uh b y hg h
def IS.ad (t b E esz:Nat) (el:Nat→Nat→DV):IS where
 act st:=match get st.slots t,get st.heap b with
  |some (.v (.one (.d (.sl (some false) _ l _)))),none=>[.n l, .b true]
  |_,_=>[.b false]
 want _:=[.n 0, .b true]
 nxt st:=⟨(t, .v (.one (.own b false 0)))::st.slots,(b,some (.arr E esz 0 el))::st.heap⟩
 ok B N L st hs:=by
  split at hs
  ·rename_i e l f h1 h2
   simp only [List.cons.injEq,Ck.n.injEq,and_true]at hs
   subst hs
   exact jQ.NG h1 h2
  ·simp at hs
def IS.kY (p q b E esz:Nat) (el:Nat→Nat→DV):IS where
 act st:=match get st.heap p,get st.heap b with
  |some (some (.cells _ cs)),none=>match cs[q]? with
   |some (.d (.sl (some false) _ l _))=>[.n l, .b true]
   |_=>[.b false]
  |_,_=>[.b false]
 want _:=[.n 0, .b true]
 nxt st:=match get st.heap p with
  |some (some (.cells E0 cs))=> ⟨st.slots,(p,some (.cells E0 (cs.set q (.own b false 0))))::(b,some (.arr E esz 0 el))::st.heap⟩
  |_=>st
 ok B N L st hs:=by
  split at hs
  ·rename_i E0 cs h1 h2
   split at hs
   ·rename_i e l f h3
    simp only [List.cons.injEq,Ck.n.injEq,and_true]at hs
    subst hs
    rw [h1]
    exact jQ.L6 (E:=0) (esz:=0) (fun _ _ _ _ h=> .inl ⟨h,rfl⟩) h1 h3 h2
   ·simp at hs
  ·simp at hs
def IS.re (p q b b':Nat):IS where
 act st:=match get st.heap p,get st.heap b,get st.heap b' with
  |some (some (.cells _ cs)),some (some (.arr _ _ _ _)),none=>match cs[q]? with
   |some (.own k _ _)=>[.n k, .b true]
   |_=>[.b false]
  |_,_,_=>[.b false]
 want _:=[.n b, .b true]
 nxt st:=match get st.heap p,get st.heap b with
  |some (some (.cells E0 cs)),some (some (.arr E esz n el))=>match cs[q]? with
   |some (.own _ nn len)=> ⟨st.slots,(p,some (.cells E0 (cs.set q (.own b' nn len))))::(b',some (.arr E esz n el))::(b,none)::st.heap⟩
   |_=>st
  |_,_=>st
 ok B N L st hs:=by
  split at hs
  ·rename_i E0 cs E esz n el h1 h2 h3
   split at hs
   ·rename_i k nn len h4
    simp only [List.cons.injEq,Ck.n.injEq,and_true]at hs
    subst hs
    rw [h1,h2]
    simp only [h4]
    exact jQ.M0 h1 h4 h2 h3
   ·simp at hs
  ·simp at hs
def IS.Ou (t b E esz:Nat) (el:Nat→Nat→EV):IS where
 act st:=match get st.slots t,get st.heap b with
  |some (.v (.one (.d (.sl (some false) _ l _)))),none=>[.n l, .b true]
  |_,_=>[.b false]
 want _:=[.n 0, .b true]
 nxt st:=⟨(t, .v (.one (.own b false 0)))::st.slots,(b,some (.rows E esz 0 el none))::st.heap⟩
 ok B N L st hs:=by
  split at hs
  ·rename_i e l f h1 h2
   simp only [List.cons.injEq,Ck.n.injEq,and_true]at hs
   subst hs
   exact jQ.LB h1 h2
  ·simp at hs
def Sc.sb {R:Type} (t:Nat) (b x y v:Bool) (j:Nat) (k:Sc R):Sc R:=
 .wi j {
  p:=b=v,act:=(fun st=>match get st.slots t with|some w=>[.tv w, .b true]|none=>[.tv (vB x), .b false]),want:=fun _=>[.tv (vB (bif b then x else y)), .b true],nxt:=fun st=> ⟨wV t (vB (bif v then x else y)) st.slots,st.heap⟩,
  ok:=fun hp B N L st hs=>by
   subst hp
   cases hg:get st.slots t with
   |none=>rw [hg]at hs;simp at hs
   |some w=>
    rw [hg]at hs
    simp only [List.cons.injEq,Ck.tv.injEq,and_true]at hs
    subst hs
    exact Sg.us t _ hg (.refl _)} k
def Sc.un {α R:Type} [Inhabited α] (b c E esz:Nat) (cf:α→Nat→DV) (l:List α) (q:Int) (j:Nat) (k:Sc R):Sc R:=
 .wi j {
  p:=0≤q∧q≤(l.length:Int),act:=(fun st=>match get st.heap b,get st.heap c with|some x,some y=>[.ob x, .ob y, .b (Nat.ble 1 esz)]|_,_=>[.b false]),
  want:=fun _=>[.ob (some (.arr E esz l.length (av cf l))), .ob (some (.suf b q.toNat esz)), .b true],nxt:=fun st=> ⟨st.slots,(c,some (.arr E esz (l.length - q.toNat) (av cf (l.drop q.toNat))))::(b,none)::st.heap⟩,
  ok:=fun hp B N L st hs=>by
   split at hs
   ·rename_i x y h1 h2
    simp only [List.cons.injEq,Ck.ob.injEq,Ck.b.injEq,and_true]at hs
    obtain⟨rfl,rfl,hz⟩:=hs
    exact jQ.Lx h1 h2 (by omega) (by have:=Nat.le_of_ble_eq_true hz;omega)
   ·simp at hs} k
def IS.tr (b E esz len:Nat) (el:Nat→Nat→DV) (el':Nat→Nat→EV) (h: ∀i,i<len→ ∀j,j<esz→FQ (el i j) (el' i j)):IS where
 act st:=match get st.heap b with|some x=>[.ob x]|none=>[.b false]
 want _:=[.ob (some (.arr E esz len el))]
 nxt st:=⟨st.slots,(b,some (.rows E esz len el' none))::st.heap⟩
 ok B N L st hs:=by
  split at hs
  ·rename_i x h1
   simp only [List.cons.injEq,Ck.ob.injEq,and_true]at hs
   subst hs
   exact jQ.LP h1 h
  ·simp at hs
def BO:List Nat→List (Nat × TV)→List (Nat × TV)
 |[],_=>[]
 |t::ks,l=>match get l t with|some v=>(t,v)::BO ks l|none=>BO ks l
theorem vR {l:List (Nat × TV)}: ∀{ks:List Nat} {t:Nat} {v:TV},get (BO ks l) t=some v→get l t=some v
 |[],_,_,h=>by cases h
 |k::ks,t,v,h=>by
  unfold BO at h
  split at h
  ·rename_i v' hv
   rw [ay]at h
   split at h
   ·rename_i e;subst e;cases h;exact hv
   ·exact vR h
  ·exact vR h
def IS.dp (ks:List Nat):IS where
 act _:=[]
 want _:=[]
 nxt st:=⟨BO ks st.slots,st.heap⟩
 ok B N L st _:=fun a w hc=> ⟨by
  obtain⟨ρ,F,h1,h2,h3,h4⟩:=hc.ex
  exact⟨ρ,F,h1,h2,fun t tv ht=>h3 t tv (vR ht),h4⟩,hc.ids,hc.sz⟩
def Sc.so {R:Type} (t b:Nat) (nn:Bool) (n m:Nat) (j:Nat) (k:Sc R):Sc R:=
 .wi j {
  p:=n=m,act:=(fun st=>match get st.slots t with|some w=>[.tv w, .b true]|none=>[.tv (.v (.one (.own b nn n))), .b false]),want:=fun _=>[.tv (.v (.one (.own b nn n))), .b true],
  nxt:=fun st=> ⟨wV t (.v (.one (.own b nn m))) st.slots,st.heap⟩,
  ok:=fun hp B N L st hs=>by
   have:=hp
   subst this
   cases hg:get st.slots t with
   |none=>rw [hg]at hs;simp at hs
   |some w=>
    rw [hg]at hs
    simp only [List.cons.injEq,Ck.tv.injEq,and_true]at hs
    subst hs
    exact Sg.us t _ hg (.refl _)} k
def NV {α:Type} [Inhabited α] (l:List α) (lo n:Nat):List α:=(List.range n).map fun i=>at' l (i+lo)
theorem CY {α:Type} [Inhabited α] (l:List α) (lo n:Nat):(NV l lo n).length=n:=by simp [NV]
end Sg
