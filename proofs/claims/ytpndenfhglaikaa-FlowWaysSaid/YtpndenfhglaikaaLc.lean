import Derived.Test.YtpndenfhglaikaaLb
import Derived.RangeFuncIn
import Derived.RangeFuncRecord
import Derived.LoopNIn
import Derived.Deep.Slices
import Derived.OpenShut
import Derived.Carry
import Derived.Maps.RangeRun
set_option linter.all false
namespace Sg
open Go
def K8:Code→Exit
 | .exit id=> .exit id
 | .goto l=> .goto l
 |_=> .ret
def JX:Code→Bool
 | .ret| .exit _| .goto _=>true
 |_=>false
def Dm (outs:List Code) (st:Nat) (e:Exit):Prop:=(st=0∧e= .normal)∨ ∃k c,st=k+2∧outs[k]? =some c∧JX c=true∧e=K8 c
theorem Dm.zero {outs:List Code} {st:Nat} (h:st=0):Dm outs st .normal:= .inl ⟨h,rfl⟩
theorem Dm.out {outs:List Code} {st k:Nat} {c:Code} (h:st=k+2) (hc:outs[k]? =some c) (ho:JX c=true):Dm outs st (K8 c):= .inr ⟨k,c,h,hc,ho,rfl⟩
theorem aiz {w:World} {k:Nat} (o:Obj):Put w (w.putObj k o) k:=⟨by simp,fun j hj=>World.putObj_heap_other hj,rfl,rfl,rfl⟩
section
variable {P:Program} {B:Base} {N:Nat} {L:List Nat} {T:List (Nat × TI)} {Q:Exit→St→Prop} {st:St}
def Y4:TV→Option (FuncId × List CV × List CV)
 | .v (.one (.d (.fn f n cap)))=>some (f,[],takeC cap 0 n)
 | .v (.one (.fn f nf n cap))=>bif Nat.ble nf n then some (f,gu cap 0 nf,gu cap nf (n - nf))else none
 |_=>none
theorem VH {ρ:Nat→Option Pl} {F:Nat→Prop} {w:World} {tv:TV} {f:FuncId} {c1 c2:List CV} {v:Value} (h:Y4 tv=some (f,c1,c2)) (hr:dG ρ F w tv v): ∃v1 v2:List Value,v= .func (.func f) v1.toArray v2.toArray∧dD ρ F w c1 v1∧dD ρ F w c2 v2:=by
 unfold Y4 at h
 split at h
 ·rename_i g n cap
  cases h
  obtain⟨vs,hv,hn,hcap⟩:=hr
  refine⟨[],vs,hv,trivial,dD.rJ (by rw [ql,hn]) fun j c hj=> ?_⟩
  obtain⟨hlt,rfl⟩:=Ag cap 0 n j c hj
  have hg:=List.getElem?_eq_getElem (l:=vs) (i:=j) (by omega)
  exact⟨_,hg,by rw [Nat.zero_add];exact hcap j _ hg⟩
 ·rename_i g nf n cap
  cases hb:Nat.ble nf n with
  |false=>simp [hb]at h
  |true=>
   simp only [hb,cond_true]at h
   cases h
   have hle:=Nat.le_of_ble_eq_true hb
   obtain⟨vs,hv,hn,hcap⟩:=hr
   refine⟨vs.take nf,vs.drop nf,hv,dD.rJ (by rw [pV];simp;omega) fun j c hj=> ?_,dD.rJ (by rw [pV];simp;omega) fun j c hj=> ?_⟩
   ·obtain⟨hlt,rfl⟩:=Ab cap 0 nf j c hj
    have hg:=List.getElem?_eq_getElem (l:=vs) (i:=j) (by omega)
    exact⟨_,by rw [List.getElem?_take,if_pos hlt];exact hg,by rw [Nat.zero_add];exact hcap j _ hg⟩
   ·obtain⟨hlt,rfl⟩:=Ab cap nf (n - nf) j c hj
    have hg:=List.getElem?_eq_getElem (l:=vs) (i:=nf+j) (by omega)
    exact⟨_,by rw [List.getElem?_drop];exact hg,hcap (nf+j) _ hg⟩
 ·cases h
theorem JV: ∀(cs:List CV),nA (cs.map fun c=> .v (.one c))=some (cs.map .one)
 |[]=>rfl
 |c::cs=>by simp [nA,JV cs]
theorem Ls {g:Operand} {gv:TV} {ps:List Nat} {assign body:Code} (lb:Nat) (sl:List (Nat × TV)) (outs:List Code) (ids:List Nat) {f:FuncId} {c1 c2:List CV} {hin:List (Nat × Option Ob)} (res:TV) (hout:List (Nat × Option Ob)) {stt:Nat} {r':nI} {sl':List (Nat × TV)} {e:Exit}
  (hg:Ky st g=some gv) (hf:Y4 gv=some (f,c1,c2)) (hlb:get st.heap lb=none) (hsl: ∀p∈sl,get st.slots p.1=some p.2)
  (hin1:dV ids (ids.map (dm ((lb,some (.loop ⟨ps,assign,body,N,outs⟩ 0 sl))::st.heap)))=some hin)
  (hok:(oH ((c1++CV.yl lb::c2).flatMap CV.fO) ids && oH (jG (ids.map (dm ((lb,some (.loop ⟨ps,assign,body,N,outs⟩ 0 sl))::st.heap)))) ids && kN ids (hout.map (·.1)) ((hout.map (·.1)).map (dm ((lb,some (.loop ⟨ps,assign,body,N,outs⟩ 0 sl))::st.heap))))=true)
  (hfn:Fn P f ((c1++CV.yl lb::c2).map .one) hin res hout) (hlo:get hout lb=some (some (.loop r' stt sl'))) (hr':r'.outs=outs) (hx:Dm outs stt e)
  (hQ:Q e ⟨st.slots,(lb,none)::(hout++(ids.map (fun i=>(i,none))++st.heap))⟩):bW none P B N L (.rangeFunc g ps.toArray assign body) Q st:=by
 intro a w hc
 obtain⟨⟨ρ,F,hfr,hi,hs,dn⟩,hid,sz⟩:=hc
 refine wpIn_rangeFunc ?_
 intro fn _
 obtain⟨v1,v2,hv,hr1,hr2⟩:=VH hf (Qh hs hg)
 let W0:=w.alloc (.deferred (some []))
 let W1:=W0.alloc (.loop {state:= .ready,pending:=none,fn,tmps:=a.tmps,params:=ps.toArray,assign,body,defers:=w.heap.size})
 have hent:(Instr.enterLoop fn a.tmps ps.toArray assign body (FW none).round).run P w= .ok (w.heap.size+1,[{target:= .collected w.heap.size,args:= #[] }]) W1:=run_enterLoop_outer _ _ _ _ _
 have p0:=Push.alloc w (.deferred (some []))
 have p1:=Push.alloc W0 (.loop {state:= .ready,pending:=none,fn,tmps:=a.tmps,params:=ps.toArray,assign,body,defers:=w.heap.size})
 let F0:Nat→Prop:=fun k=>F k∨k=w.heap.size
 have hW0:W0.heap.size=w.heap.size+1:=p0.sz
 have g0:Gr ρ F w ρ F0 W0:=⟨fun _ _ h=>h,fun _ h=> .inl h,fun k hk=>p0.old (hfr.fz k hk).1⟩
 have hfr0:Fr B ρ F0 W0:=by
  refine⟨hfr.os,hfr.tape,hfr.output,by have:=hfr.size;omega,fun k hk hn=>(p0.old (by have:=hfr.size;omega)).trans (hfr.mem k hk hn),hfr.rho,fun k hk=> ?_,fun k hk=> .inl (hfr.bf k hk)⟩
  rcases hk with hk|hk
  ·obtain⟨x,y⟩:=hfr.fz k hk;exact⟨by omega,y⟩
  ·subst hk;exact⟨by omega, .inr (.inr hfr.size)⟩
 have hi0:HI B ρ F0 W0 (dm st.heap):=by
  obtain⟨ft,hi⟩:=hi
  refine⟨ft,hi.step g0 hfr (by omega) (fun _=>False) (fun b ob _ hb=> ⟨hb,fun k hk=>p0.old (hi.blk b ob k hb hk).1,fun _=>Iff.rfl⟩) (fun _ _ h=>h.elim) (fun _ _ _ h=>h.elim) (fun _ _ _ _ _ h=>h.elim) (fun k hk=> ?_) hi.fresh⟩
  rcases hk with hk|hk
  ·exact .inl hk
  ·subst hk;exact .inr (.inr ⟨Nat.le_refl _,fun _ _ h=>h.elim⟩)
 have hρ:=hi0.fresh lb hlb
 have g1:Gr ρ F0 W0 (fw ρ lb (.blk W0.heap.size 0 0)) F0 W1:=p1.gr hfr0 hρ
 have hi1:=p1.hi hfr0 hi0 (b:=lb) (base:=0) (cap:=0) (nob:= .loop ⟨ps,assign,body,N,outs⟩ 0 sl) hlb (by
  refine⟨W0.heap.size,0,0,fn,a.tmps,w.heap.size,aV _ _,rfl,by simp, ?_,sz,fun t tv ht=> ?_⟩
  ·rw [p1.new];rfl
  ·obtain⟨v,hv,hr⟩:=hs t tv (hsl _ (get_mem ht))
   exact⟨v,hv,(hr.gr g0).gr g1⟩)
 have hfr1:=p1.fr hfr0 (pl:= .blk W0.heap.size 0 0) hρ
 have hheap:upd (dm st.heap) [(lb,some (.loop ⟨ps,assign,body,N,outs⟩ 0 sl))]=dm ((lb,some (.loop ⟨ps,assign,body,N,outs⟩ 0 sl))::st.heap):=by
  funext x;rw [vw];simp only [dm];rw [aT]
 rw [hheap]at hi1
 have hL:W1.heap[w.heap.size+1]? =some (.loop {state:= .ready,pending:=none,fn,tmps:=a.tmps,params:=ps.toArray,assign,body,defers:=w.heap.size}):=by
  have:=p1.new;rw [hW0]at this;exact this
 have gg:=g0.trans g1
 refine⟨w.heap.size+1,[{target:= .collected w.heap.size,args:= #[] }],W1,{target:= .fn (.func f) v2.toArray,args:=v1.toArray++ #[.func (.yield (w.heap.size+1)) #[] #[]] },W1,f,(v1.toArray++ #[.func (.yield (w.heap.size+1)) #[] #[]])++v2.toArray,W1,hent, ?_,fun _ _=>trivial, ?_,fun hh=>by simp [FW,Fence.wide]at hh, ?_⟩
 ·simp [resolve,hv,Deferred.ofValue];rfl
 ·obtain⟨⟨fn',e1,e2,e3⟩,_⟩:=hfn
  simp only [invoke,callFunc,Sem.run_bind,run_program,Result.andThen_ok,e1,e2,e3,Bool.false_eq_true,if_false]
  rfl
 ·-- the call
  have hargs:nA ((c1++CV.yl lb::c2).map fun c=>TV.v (.one c))=some ((c1++CV.yl lb::c2).map .one):=JV _
  have hyl:jo (fw ρ lb (.blk W0.heap.size 0 0)) F0 W1 (.yl lb) (.func (.yield (w.heap.size+1)) #[] #[]):=⟨W0.heap.size,0,0,aV _ _,by rw [hW0]⟩
  have hxs:je (fw ρ lb (.blk W0.heap.size 0 0)) F0 W1 ((c1++CV.yl lb::c2).map fun c=>TV.v (.one c)) (v1++ .func (.yield (w.heap.size+1)) #[] #[]::v2):=
   GJ (((hr1.gr gg)).append ⟨hyl,hr2.gr gg⟩)
  have hmentE:((c1++CV.yl lb::c2).map SV.one).flatMap SV.fO=(c1++CV.yl lb::c2).flatMap CV.fO:=by
   rw [List.flatMap_map];rfl
  have hdropE:((ids++hout.map (·.1)).map (dm ((lb,some (.loop ⟨ps,assign,body,N,outs⟩ 0 sl))::st.heap))).drop ids.length=(hout.map (·.1)).map (dm ((lb,some (.loop ⟨ps,assign,body,N,outs⟩ 0 sl))::st.heap)):=by
   rw [List.map_append]
   conv=>lhs;arg 1;rw [←List.length_map (f:=dm ((lb,some (.loop ⟨ps,assign,body,N,outs⟩ 0 sl))::st.heap)) (as:=ids)]
   rw [List.drop_left]
  have htakeE:((ids++hout.map (·.1)).map (dm ((lb,some (.loop ⟨ps,assign,body,N,outs⟩ 0 sl))::st.heap))).take ids.length=ids.map (dm ((lb,some (.loop ⟨ps,assign,body,N,outs⟩ 0 sl))::st.heap)):=by
   rw [List.map_append]
   conv=>lhs;arg 1;rw [←List.length_map (f:=dm ((lb,some (.loop ⟨ps,assign,body,N,outs⟩ 0 sl))::st.heap)) (as:=ids)]
   rw [List.take_left]
  have hzip:dV ids ((ids++hout.map (·.1)).map (dm ((lb,some (.loop ⟨ps,assign,body,N,outs⟩ 0 sl))::st.heap)))=some hin:=by
   rw [List.map_append]
   have: ∀(is:List Nat) (os os':List (Option (Option Ob))) (m:List (Nat × Option Ob)),dV is os=some m→dV is (os++os')=some m:=by
    intro is
    induction is with
    |nil=>intro os os' m h;simpa [dV]using h
    |cons i is ih=>
     intro os os' m h
     match os,h with
     |some (some o)::os,h=>
      simp only [dV]at h
      split at h
      ·rename_i l hl
       simp only [List.cons_append,dV,ih os os' l hl];exact h
      ·cases h
     |[],h=>simp [dV]at h
     |none::_,h=>simp [dV]at h
     |some none::_,h=>simp [dV]at h
   exact this _ _ _ _ hin1
  have hall:=fun K=>Pe (res:=res) (B:=B) (X:=fun K=>CallsIn (FW none) (0 - 1) P f ((v1.toArray++ #[.func (.yield (w.heap.size+1)) #[] #[]])++v2.toArray) W1 fun e w'=> ∃v,e= .returned v∧K v w') hzip hargs
   (by rw [hmentE,htakeE,hdropE];exact hok) rfl hfr1 hi1 hxs (fun B' hw _ hF hi' hxs' K hK=>by
    have hcall:=(callsIn_wide (n:=0 - 1)).2 (hfn.2 B' (v1++ .func (.yield (w.heap.size+1)) #[] #[]::v2) hF hi' hxs')
    have harr:(v1++ .func (.yield (w.heap.size+1)) #[] #[]::v2).toArray=(v1.toArray++ #[.func (.yield (w.heap.size+1)) #[] #[]])++v2.toArray:=Array.ext' (by simp)
    rw [harr,hw]at hcall
    have hcall':CallsIn (FW none) (0 - 1) P f ((v1.toArray++ #[.func (.yield (w.heap.size+1)) #[] #[]])++v2.toArray) W1 _:=hcall
    refine hcall'.mono ?_
    rintro e w' ⟨v,ρ',F',rfl,h1,h2,h3⟩
    exact⟨v,rfl,hK v w' ⟨ρ',F',h1,h2,h3⟩⟩) K
  refine CallsIn.mono (hall (fun v w'=>rangePost (FW none) 0 P (w.heap.size+1) (fun e a' w'=> ∃st',Q e st'∧Conc B N L st' a' w') {a with defers:=[{target:= .collected w.heap.size,args:= #[] }]++a.defers} (.returned v) w')
   (fun v ρ2 F2 w2 g2 f2 hi2 hr=> ?_)) ?_
  ·-- behind the call
   obtain⟨ft2,hi2⟩:=hi2
   have hl2:upd (dm ((lb,some (.loop ⟨ps,assign,body,N,outs⟩ 0 sl))::st.heap)) (hout++ids.map fun i=>(i,none)) lb=some (some (.loop r' stt sl')):=by
    rw [JK,get_append,hlo]
   obtain⟨k,base,cap,fn2,tmps2,D2,y1,y0,y2,y3,y4,y5⟩:=hi2.obj lb _ hl2
   have hk:k=w.heap.size+1:=by
    have:=g2.rho lb _ (aV lb (.blk W0.heap.size 0 0))
    rw [y1]at this;cases this;exact hW0
   subst hk
   have hend:=run_endLoop (P:=P) y3 (by
    rcases hx with⟨h0,_⟩|⟨q,c,h0,_⟩
    ·subst h0;simp [nP]
    ·subst h0;simp [nP])
   have pt:=aiz (w:=w2) (k:=w.heap.size+1) (.loop {state:= .exhausted,pending:=iK r'.outs stt,fn:=fn2,tmps:=tmps2,params:=r'.ps.toArray,assign:=r'.assign,body:=r'.body,defers:=D2})
   have hblk:=hi2.blk lb _ _ hl2 y0
   have g3:=pt.gr (ρ:=ρ2) hblk.2.1
   have hfr3:=pt.fr f2 hblk.2.2
   have hi3:zw B ρ2 F2 (w2.putObj (w.heap.size+1) (.loop {state:= .exhausted,pending:=iK r'.outs stt,fn:=fn2,tmps:=tmps2,params:=r'.ps.toArray,assign:=r'.assign,body:=r'.body,defers:=D2}))
     (dm ((lb,none)::(hout++(ids.map (fun i=>(i,none))++st.heap)))) ft2:=by
    have hu: ∀x,dm ((lb,none)::(hout++(ids.map (fun i=>(i,none))++st.heap))) x=if lb=x then some none else upd (dm ((lb,some (.loop ⟨ps,assign,body,N,outs⟩ 0 sl))::st.heap)) (hout++ids.map fun i=>(i,none)) x:=fun x=>by
     simp only [dm];rw [aT]
     by_cases e:lb=x
     ·rw [if_pos e,if_pos e]
     ·rw [if_neg e,if_neg e,←List.append_assoc,get_append,JK]
      cases get (hout++ids.map fun i=>(i,none)) x with
      |some _=>rfl
      |none=>simp only;rw [aT,if_neg e]
    refine hi2.step g3 f2 (by rw [pt.size];omega) (fun x=>x=lb) (fun x ox e hh=> ?_) (fun x ox e hh=> ?_) (fun x ox q e hh _=> ?_) (fun x y ox oy q e1 e2 _ _ _ _=>e1.trans e2.symm) (fun q hq=> .inl hq) fun x hh=> ?_
    ·rw [hu,if_neg (Ne.symm e)]at hh
     exact⟨hh,fun q hq=>pt.old q fun e'=>e (hi2.dis x lb ox _ q hh hl2 hq (e' ▸ y0)),fun _=>Iff.rfl⟩
    ·subst e;rw [hu,if_pos rfl]at hh;cases hh
    ·subst e;rw [hu,if_pos rfl]at hh;cases hh
    ·rw [hu]at hh
     split at hh
     ·cases hh
     ·exact hi2.fresh x hh
   have gall:=(gg.trans g2).trans g3
   have hconc:Conc B N L ⟨st.slots,(lb,none)::(hout++(ids.map (fun i=>(i,none))++st.heap))⟩ {a with defers:=[{target:= .collected w.heap.size,args:= #[] }]++a.defers}
     (w2.putObj (w.heap.size+1) (.loop {state:= .exhausted,pending:=iK r'.outs stt,fn:=fn2,tmps:=tmps2,params:=r'.ps.toArray,assign:=r'.assign,body:=r'.body,defers:=D2})):=by
    refine⟨⟨ρ2,F2,hfr3,⟨ft2,hi3⟩,fun t tv ht=> ?_, ?_⟩,hid,sz⟩
    ·obtain⟨v,hv,hr⟩:=hs t tv ht
     exact⟨v,hv,hr.gr gall⟩
    ·obtain⟨d0,Ds,d1,d2,d3⟩:=dn
     have hg12:=g1.trans (g2.trans g3)
     refine⟨d0,w.heap.size::Ds,by simp [d1],List.nodup_cons.2 ⟨fun hm=> ?_,d2⟩,fun D hD=> ?_⟩
     ·have:=(hfr.fz _ (d3 _ hm).1).1;omega
     ·rcases List.mem_cons.1 hD with rfl|hD
      ·exact⟨hg12.fz _ (.inr rfl),Nat.le_trans d0 hfr.size,by rw [hg12.mem _ (.inr rfl)];exact p0.new⟩
      ·obtain⟨z1,z2,z3⟩:=d3 D hD
       exact⟨gall.fz D z1,z2,by rw [gall.mem D z1];exact z3⟩
   refine⟨iK r'.outs stt,_,hend, ?_⟩
   rcases hx with⟨h0,rfl⟩|⟨q,c,h0,hcq,hout',rfl⟩
   ·subst h0
    exact⟨_,hQ,hconc⟩
   ·subst h0
    have hp:iK r'.outs (q+2)=some c:=by simp [iK,hr',hcq]
    rw [hp]
    cases c with
    |ret=>exact wpIn_ret ⟨_,hQ,by rw [hp]at hconc;exact hconc⟩
    |exit id=>exact wpIn_exit ⟨_,hQ,by rw [hp]at hconc;exact hconc⟩
    |goto l=>exact wpIn_goto ⟨_,hQ,by rw [hp]at hconc;exact hconc⟩
    |_=>simp [JX]at hout'
  ·rintro e w' ⟨v,rfl,hh⟩
   exact hh
def Z5 (s:Nat):Option Ob→Option Ob
 |some (.loop r _ sl)=>some (.loop r s sl)
 |y=>y
def Jw (lb s:Nat):List (Nat × Option Ob)→List (Nat × Option Ob)
 |[]=>[]
 |(b,x)::l=>(b,bif Nat.beq b lb then Z5 s x else x)::Jw lb s l
theorem P7 (lb s:Nat): ∀(l:List (Nat × Option Ob)) (b:Nat),get (Jw lb s l) b=bif Nat.beq b lb then(get l b).map (Z5 s)else get l b
 |[],b=>by simp [Jw,get]
 |(k,x)::l,b=>by
  simp only [Jw]
  rw [aT,aT]
  by_cases e:k=b
  ·subst e
   rw [if_pos rfl,if_pos rfl]
   cases Nat.beq k lb<;>rfl
  ·rw [if_neg e,if_neg e];exact P7 lb s l b
theorem Mg {a:Act} {w:World} {lb:Nat} {r:nI} {st0:Nat} {sl:List (Nat × TV)} (hc:Conc B N L st a w) (hlb:get st.heap lb=some (some (.loop r st0 sl))) {l base cap:Nat} (hl: ∀p,B.ρ lb=some p→p= .blk l base cap) (hl2:B.ρ lb≠none):
  ∃lp:Loop,w.heap[l]? =some (.loop lp)∧lp.state=nP st0∧lp.pending=iK r.outs st0∧ ∀s,s<r.outs.length+2→Conc B N L ⟨st.slots,Jw lb s st.heap⟩ a (w.putObj l (.loop {lp with state:=nP s,pending:=iK r.outs s})):=by
 obtain⟨⟨ρ,F,hfr,⟨ft,hi⟩,hs,dn⟩,hid,sz⟩:=hc
 obtain⟨k,base',cap',fn,tmps,D,y1,y0,y2,y3,y4,y5⟩:=hi.obj lb _ hlb
 have hk:k=l:=by
  cases hB:B.ρ lb with
  |none=>exact absurd hB hl2
  |some p=>
   have:=hfr.rho lb p hB
   rw [hl p hB,y1]at this;cases this;rfl
 subst hk
 refine⟨_,y3,rfl,rfl,fun s hsl=> ?_⟩
 show Conc B N L ⟨st.slots,Jw lb s st.heap⟩ a (w.putObj k (.loop {state:=nP s,pending:=iK r.outs s,fn,tmps,params:=r.ps.toArray,assign:=r.assign,body:=r.body,defers:=D}))
 have pt:=aiz (w:=w) (k:=k) (.loop {state:=nP s,pending:=iK r.outs s,fn,tmps,params:=r.ps.toArray,assign:=r.assign,body:=r.body,defers:=D})
 have hblk:=hi.blk lb _ k hlb y0
 have g:=pt.gr (ρ:=ρ) hblk.2.1
 have hhi:=pt.hi hfr hi hlb y0 (S:=ft lb) (nob:= .loop r s sl) (fun _ h=>h) ⟨k,base',cap',fn,tmps,D,y1,y0,hsl,World.putObj_heap_same hblk.1,y4,fun t tv ht=>by
  obtain⟨v,e1,e2⟩:=y5 t tv ht
  exact⟨v,e1,e2.gr g⟩⟩
 have hu:upd (dm st.heap) [(lb,some (.loop r s sl))]=dm (Jw lb s st.heap):=by
  funext b
  rw [vw]
  show _=get (Jw lb s st.heap) b
  rw [P7]
  by_cases e:lb=b
  ·subst e
   rw [if_pos rfl,hlb,show Nat.beq lb lb=true from Nat.beq_refl lb];rfl
  ·rw [if_neg e,show Nat.beq b lb=false from Gi (Ne.symm e)];rfl
 rw [hu]at hhi
 refine⟨⟨ρ,F,pt.fr hfr hblk.2.2,⟨_,hhi⟩,fun t tv ht=> ?_,dn.gr g⟩,hid,sz⟩
 obtain⟨v,hv,hr⟩:=hs t tv ht
 exact⟨v,hv,hr.gr g⟩
theorem SX: ∀{ps:List Nat} {vs:List Value} {tmps:Array Value},ps.length=vs.length→Cq ps=true→(∀t∈ps,t<tmps.size)→
  ((ps.zip vs).foldl (fun(tm:Array Value) (p:Nat × Value)=>tm.setIfInBounds p.1 p.2) tmps).size=tmps.size∧
  (∀t,t ∉ ps→((ps.zip vs).foldl (fun(tm:Array Value) (p:Nat × Value)=>tm.setIfInBounds p.1 p.2) tmps)[t]? =tmps[t]?)∧
  ∀(j t:Nat) (v:Value),ps[j]? =some t→vs[j]? =some v→((ps.zip vs).foldl (fun(tm:Array Value) (p:Nat × Value)=>tm.setIfInBounds p.1 p.2) tmps)[t]? =some v
 |[],[],tmps,_,_,_=> ⟨rfl,fun _ _=>rfl,fun _ _ _ h=>by simp at h⟩
 |p::ps,v::vs,tmps,hl,hn,hlt=>by
  simp only [Cq,Bool.and_eq_true,Bool.not_eq_true']at hn
  have hnm:=rC hn.1
  obtain⟨i1,i2,i3⟩:=SX (ps:=ps) (vs:=vs) (tmps:=tmps.setIfInBounds p v) (by simpa using hl) hn.2 (fun t ht=>by rw [Array.size_setIfInBounds];exact hlt t (by simp [ht]))
  rw [List.zip_cons_cons,List.foldl_cons]
  refine⟨by rw [i1];simp,fun t ht=> ?_,fun j t u hj hu=> ?_⟩
  ·rw [i2 t (fun h=>ht (by simp [h])),Array.getElem?_setIfInBounds_ne (fun e=>ht (by simp [e]))]
  ·cases j with
   |zero=>
    simp at hj hu;subst hj;subst hu
    rw [i2 p hnm]
    have:=hlt p (by simp)
    simp [this]
   |succ j=>simp at hj hu;exact i3 j t u hj hu
 |[],_::_,_,hl,_,_=>by simp at hl
 |_::_,[],_,hl,_,_=>by simp at hl
def En:List Nat→List SV→List (Nat × TV)
 |t::ts,s::ss=>(t, .v s)::En ts ss
 |_,_=>[]
theorem MR {ρ:Nat→Option Pl} {F:Nat→Prop} {w:World}: ∀{ps:List Nat} {args:List SV} {vs:List Value},gD ρ F w args vs→ ∀t tv,get (En ps args) t=some tv→ ∃(j:Nat) (v:Value),ps[j]? =some t∧vs[j]? =some v∧dG ρ F w tv v
 |[],_,_,_,t,tv,h=>by simp [En,get]at h
 |_::_,[],_,_,t,tv,h=>by simp [En,get]at h
 |p::ps,s::ss,v::vs,⟨h1,h2⟩,t,tv,h=>by
  simp only [En]at h
  rw [aT]at h
  split at h
  ·rename_i e;subst e;cases h;exact⟨0,v,rfl,rfl,h1⟩
  ·obtain⟨j,u,e1,e2,e3⟩:=MR h2 t tv h
   exact⟨j+1,u,by simpa using e1,by simpa using e2,e3⟩
 |_::_,_::_,[],h,_,_,_=>h.elim
theorem J6: ∀{ps:List Nat} {args:List SV} {t:Nat},ps.length=args.length→get (En ps args) t=none→t ∉ ps
 |[],_,_,_,_=>by simp
 |p::ps,[],_,hl,_=>by simp at hl
 |p::ps,s::ss,t,hl,h=>by
  simp only [En]at h
  rw [aT]at h
  split at h
  ·cases h
  ·rename_i e
   rw [List.mem_cons]
   rintro (e'|hm)
   ·exact e e'.symm
   ·exact J6 (by simpa using hl) h hm
def lF (lb:Nat) (r:nI) (res:TV) (hout:List (Nat × Option Ob)) (e:Exit) (st:St):Prop:=
 ∃(s:Nat) (b:Bool) (sl:List (Nat × TV)),((e= .normal∧s=0∧b=true)∨ ∃k c,r.outs[k]? =some c∧JX c=true∧e=K8 c∧s=k+2∧b=false)∧
  get st.heap lb=some (some (.loop r 1 sl))∧rY (Jw lb s st.heap) hout∧dY (.v (.one (.d (.bool b)))) res
theorem lF.on {lb:Nat} {r:nI} {res:TV} {hout:List (Nat × Option Ob)} {sl:List (Nat × TV)} (h1:get st.heap lb=some (some (.loop r 1 sl))) (h2:rY (Jw lb 0 st.heap) hout) (h3:dY (.v (.one (.d (.bool true)))) res):lF lb r res hout .normal st:=
 ⟨0,true,sl, .inl ⟨rfl,rfl,rfl⟩,h1,h2,h3⟩
theorem lF.off {lb k:Nat} {c:Code} {e:Exit} {r:nI} {res:TV} {hout:List (Nat × Option Ob)} {sl:List (Nat × TV)} (hc:r.outs[k]? =some c) (ho:JX c=true) (he:e=K8 c) (h1:get st.heap lb=some (some (.loop r 1 sl))) (h2:rY (Jw lb (k+2) st.heap) hout) (h3:dY (.v (.one (.d (.bool false)))) res):lF lb r res hout e st:=
 ⟨k+2,false,sl, .inr ⟨k,c,hc,ho,he,rfl,rfl⟩,h1,h2,h3⟩
theorem Ck {lb:Nat} {r:nI} {sl sl1:List (Nat × TV)} {args:List SV} {hin h1 hout:List (Nat × Option Ob)} {res:TV} {sl2:List (Nat × TV)} (hlb:get hin lb=some (some (.loop r 0 sl))) (hps:r.ps.length=args.length) (hnd:Cq r.ps=true) (hlt:r.ps.all (fun t=>Nat.blt t r.N)=true)
  (hA: ∀rd B,bW rd P B r.N (hin.map (·.1)) r.assign (fun e st'=>e= .normal∧st'=⟨sl1,h1⟩) ⟨En r.ps args++sl,hin⟩) (hlb1:get h1 lb=some (some (.loop r 0 sl2)))
  (hB: ∀rd B,bW rd P B r.N (hin.map (·.1)) r.body (lF lb r res hout) ⟨sl1,Jw lb 1 h1⟩):Yl P lb args hin res hout:=by
 intro B0 vs l base cap hF hi hr hρ
 obtain⟨B,hBe⟩: ∃B,B=B0.up:=⟨_,rfl⟩
 have hF: ∀k,B.F k→k<B.w.heap.size:=by rw [hBe];exact hF
 have hi:HI B B.ρ B.F B.w (dm hin):=by rw [hBe];exact hi.up
 have hr:gD B.ρ B.F B.w args vs:=by rw [hBe];exact hr
 have hρ:B.ρ lb=some (.blk l base cap):=by rw [hBe];exact hρ
 have hmk:B.mb≤B.w.heap.size:=by rw [hBe];exact Nat.le_refl _
 have down: ∀{v w},Post B res hout v w→Post B0 res hout v w:=by
  rw [hBe]
  rintro v w ⟨ρ,F,a,b,c⟩
  exact⟨ρ,F,a.dn,b.dn,c⟩
 rw [show B0.w=B.w by rw [hBe];rfl]
 have hi0:=hi
 obtain⟨ft,hi⟩:=hi
 obtain⟨k,base',cap',fn,tmps,D,y1,y0,y2,y3,y4,y5⟩:=hi.obj lb _ hlb
 rw [hρ]at y1;cases y1
 have hvl:=hr.length
 have hy:=run_yield (P:=P) (args:=vs.toArray) y3 (by simp;omega)
 refine⟨fn,_,r.assign,r.body,hy, ?_⟩
 have hfold:(r.ps.toArray.zip vs.toArray).foldl (fun tmps (t,a)=>tmps.setIfInBounds t a) tmps=(r.ps.zip vs).foldl (fun(tm:Array Value) (p:Nat × Value)=>tm.setIfInBounds p.1 p.2) tmps:=by
  rw [←Array.foldl_toList];simp
 obtain⟨z1,z2,z3⟩:=SX (ps:=r.ps) (vs:=vs) (tmps:=tmps) (by omega) hnd (fun t ht=>by
  have:=List.all_eq_true.1 hlt t ht
  rw [y4];exact Nat.le_of_ble_eq_true (n:=t+1) this)
 have hconc:Conc B r.N (hin.map (·.1)) ⟨En r.ps args++sl,hin⟩ {tmps:=(r.ps.toArray.zip vs.toArray).foldl (fun tmps (t,a)=>tmps.setIfInBounds t a) tmps,defers:=[] } B.w:=by
  rw [hfold]
  refine⟨⟨B.ρ,B.F,⟨rfl,rfl,rfl,Nat.le_refl _,fun _ _ _=>rfl,fun _ _ h=>h,fun k hk=> ⟨hF k hk, .inl hk⟩,fun _ h=>h⟩,hi0,fun t tv ht=> ?_,Marks.none hmk⟩,fun b p hbp=> ?_,by rw [z1,y4]⟩
  ·have ht:get (En r.ps args++sl) t=some tv:=ht
   rw [get_append]at ht
   split at ht
   ·rename_i tv' hg
    cases ht
    obtain⟨j,v,e1,e2,e3⟩:=MR hr t tv hg
    exact⟨v,z3 j t v e1 e2,e3⟩
   ·rename_i hg
    obtain⟨v,e1,e2⟩:=y5 t tv ht
    exact⟨v,by rw [z2 t (J6 hps hg)];exact e1,e2⟩
  ·apply Classical.byContradiction
   intro hnm
   have:=hi.fresh b (eZ hnm)
   rw [this]at hbp;cases hbp
 have hl1: ∀p,B.ρ lb=some p→p= .blk l base cap:=fun p hp=>by rw [hρ]at hp;cases hp;rfl
 have hl2:B.ρ lb≠none:=by rw [hρ];simp
 refine roundIn_of_wpIn (F:=FW none) trivial (wpIn_mono (hA (some l) B _ _ hconc) ?_)
 rintro e a1 w1 ⟨st',⟨rfl,rfl⟩,hc1⟩
 obtain⟨lp,q1,q2,q3,q4⟩:=Mg hc1 hlb1 hl1 hl2
 refine⟨_,run_beginRound q1 (by rw [q2];rfl), ?_⟩
 have hc2:=q4 1 (by omega)
 have hlp:({lp with state:=nP 1,pending:=iK r.outs 1}:Loop)={lp with state:= .busy}:=by
  have:lp.pending=none:=q3
  cases lp;simp at this;subst this;rfl
 rw [hlp]at hc2
 refine wpIn_mono (hB (some l) B _ _ hc2) ?_
 rintro e a2 w2 ⟨st2,⟨s,b,sl3,hcase,hg,hle,hres⟩,hc3⟩
 obtain⟨lp2,u1,u2,u3,u4⟩:=Mg hc3 hg hl1 hl2
 have fin: ∀jump:Option Code,s<r.outs.length+2→(if jump.isNone then LoopState.ready else .done)=nP s→jump=iK r.outs s→jump.isNone=b→
   ∃v w',(Instr.endRound l jump).run P w2= .ok v w'∧ ∃v',Ending.returned v=Ending.returned v'∧Post B0 res hout v' w':=by
  intro jump hs h1 h2 h3
  refine⟨_,_,run_endRound jump u1,_,rfl, ?_⟩
  have hc4:=u4 s hs
  rw [h1,h2,show(iK r.outs s).isNone=b by rw [←h2];exact h3]
  obtain⟨⟨ρ',F',f1,f2,_,_⟩,_,_⟩:=hc4
  exact down ⟨ρ',F',f1,f2.le hle,hres _ _ _ _ rfl⟩
 rcases hcase with⟨rfl,rfl,rfl⟩|⟨k,c,hk,ho,rfl,rfl,rfl⟩
 ·exact fin none (by omega) rfl rfl rfl
 ·have hkl:k<r.outs.length:=(List.getElem?_eq_some_iff.1 hk).1
  have hp:some c=iK r.outs (k+2):=by simp [iK,hk]
  cases c with
  |ret=>exact fin (some .ret) (by omega) rfl hp rfl
  |exit id=>exact fin (some (.exit id)) (by omega) rfl hp rfl
  |goto t=>exact fin (some (.goto t)) (by omega) rfl hp rfl
  |_=>simp [JX]at ho
end
def Cv (l:List CV) (j:Nat):CV:=l.getD j (.d .nilp)
theorem Gp (n:Nat) (f:Nat→CV) {j:Nat} (h:j<n):Cv ((List.range n).map f) j=f j:=by
 simp [Cv,List.getD_eq_getElem?_getD,h]
def CV.ren (σ:Nat→Nat):CV→CV
 | .d x=> .d x
 | .ptr b off=> .ptr (σ b) off
 | .opt b e i off=> .opt (σ b) e i off
 | .own b nn len=> .own (σ b) nn len
 | .mp b=> .mp (σ b)
 | .fn f nf n cap=> .fn f nf n (Cv ((List.range n).map fun j=>(cap j).ren σ))
 | .yl b=> .yl (σ b)
def SV.ren (σ:Nat→Nat):SV→SV
 | .one c=> .one (c.ren σ)
 | .agg cs=> .agg (cs.map (CV.ren σ))
def TV.ren (σ:Nat→Nat):TV→TV
 | .v s=> .v (s.ren σ)
 | .iG l=> .iG (l.map (SV.ren σ))
def Ob.ren (σ:Nat→Nat):Ob→Ob
 | .cells E cs=> .cells E (cs.map (CV.ren σ))
 | .fcells E ds=> .fcells E ds
 | .arr E esz len el=> .arr E esz len el
 | .rows E esz len el ov=> .rows E esz len el (ov.map fun x=>(x.1,x.2.1,x.2.2.ren σ))
 | .map m=> .map {m with val:=fun i j=>(m.val i j).ren σ,ms:=m.ms.map σ}
 | .loop r st sl=> .loop r st (sl.map fun p=>(p.1,p.2.ren σ))
 | .coll=> .coll
 | .suf b l esz=> .suf (σ b) l esz
def Aq (σ:Nat→Nat) (h:List (Nat × Option Ob)):List (Nat × Option Ob):=h.map fun p=>(σ p.1,p.2.map (Ob.ren σ))
section
variable {ρ:Nat→Option Pl} {F:Nat→Prop} {w:World} {σ:Nat→Nat}
theorem J7: ∀{c:CV} {v:Value},jo ρ F w (c.ren σ) v↔jo (fun x=>ρ (σ x)) F w c v:=by
 intro c
 induction c with
 |fn f nf n cap ih=>
  intro v
  constructor
  ·rintro ⟨vs,e,hl,h⟩
   refine⟨vs,e,hl,fun j u hu=>(ih j).1 ?_⟩
   have:=h j u hu
   rwa [Gp _ _ (by rw [←hl];exact(List.getElem?_eq_some_iff.1 hu).1)]at this
  ·rintro ⟨vs,e,hl,h⟩
   refine⟨vs,e,hl,fun j u hu=> ?_⟩
   rw [Gp _ _ (by rw [←hl];exact(List.getElem?_eq_some_iff.1 hu).1)]
   exact(ih j).2 (h j u hu)
 |_=>intro v;exact Iff.rfl
theorem CP: ∀{cs:List CV} {vs:List Value},dD ρ F w (cs.map (CV.ren σ)) vs↔dD (fun x=>ρ (σ x)) F w cs vs
 |[],[]=>Iff.rfl
 |_::_,_::_=>and_congr J7 CP
 |[],_::_=>Iff.rfl
 |_::_,[]=>Iff.rfl
theorem FK: ∀{s:SV} {v:Value},iX ρ F w (s.ren σ) v↔iX (fun x=>ρ (σ x)) F w s v
 | .one _,_=>J7
 | .agg _,_=> ⟨fun⟨vs,e,h⟩=> ⟨vs,e,CP.1 h⟩,fun⟨vs,e,h⟩=> ⟨vs,e,CP.2 h⟩⟩
theorem Aa: ∀{cs:List SV} {vs:List Value},gD ρ F w (cs.map (SV.ren σ)) vs↔gD (fun x=>ρ (σ x)) F w cs vs
 |[],[]=>Iff.rfl
 |_::_,_::_=>and_congr FK Aa
 |[],_::_=>Iff.rfl
 |_::_,[]=>Iff.rfl
theorem Gb: ∀{t:TV} {v:Value},dG ρ F w (t.ren σ) v↔dG (fun x=>ρ (σ x)) F w t v
 | .v _,_=>FK
 | .iG _,_=> ⟨fun⟨vs,e,h⟩=> ⟨vs,e,Aa.1 h⟩,fun⟨vs,e,h⟩=> ⟨vs,e,Aa.2 h⟩⟩
theorem O8: ∀{c:CV} {x:Nat},x∈(c.ren σ).fO↔ ∃y,y∈c.fO∧σ y=x:=by
 intro c
 induction c with
 |d y=>intro x;simp [CV.ren,CV.fO]
 |fn f nf n cap ih=>
  intro x
  simp only [CV.ren,CV.fO,List.mem_flatMap,List.mem_range]
  constructor
  ·rintro ⟨j,hj,h⟩
   rw [Gp _ _ hj]at h
   obtain⟨y,hy,e⟩:=(ih j).1 h;exact⟨y,⟨j,hj,hy⟩,e⟩
  ·rintro ⟨y,⟨j,hj,hy⟩,e⟩
   refine⟨j,hj, ?_⟩
   rw [Gp _ _ hj]
   exact(ih j).2 ⟨y,hy,e⟩
 |_=>intro x;simp [CV.ren,CV.fO,eq_comm]
theorem zm {α β:Type} (f:α→β): ∀(l:List (Nat × α)) (t:Nat),get (l.map fun p=>(p.1,f p.2)) t=(get l t).map f
 |[],_=>rfl
 |(k,x)::l,t=>by
  rw [List.map_cons,aT,aT,zm f l t]
  split<;>rfl
theorem MX (c:Nat→CV): ∀(i n:Nat),gu (fun j=>(c j).ren σ) i n=(gu c i n).map (CV.ren σ)
 |_,0=>rfl
 |i,n+1=>by rw [gu,gu,List.map_cons,MX c (i+1) n]
theorem WN (agg:Bool) (cs:List CV):nk agg (cs.map (CV.ren σ))=(nk agg cs).map (SV.ren σ):=by
 cases agg with
 |true=>rfl
 |false=>match cs with
  |[]=>rfl
  |[_]=>rfl
  |_::_::_=>rfl
theorem Ki {agg:Bool} {sz:Nat} {c:Nat→CV} {v:Value}:zY ρ F w agg sz (fun j=>(c j).ren σ) v↔zY (fun x=>ρ (σ x)) F w agg sz c v:=by
 unfold zY
 rw [MX,WN]
 constructor
 ·rintro ⟨s,e,h⟩
  cases hh:nk agg (gu c 0 sz)with
  |none=>rw [hh]at e;cases e
  |some s'=>rw [hh]at e;cases e;exact⟨s',rfl,FK.1 h⟩
 ·rintro ⟨s,e,h⟩
  rw [e]
  exact⟨_,rfl,FK.2 h⟩
theorem Pn {S:Nat→Prop} {rb:Nat→Nat→Option Nat} {el:Nat→Nat→EV} {ov:Option (Nat × Nat × CV)} {i j:Nat} {v:Value}:
  F9 ρ F w S rb el (ov.map fun x=>(x.1,x.2.1,x.2.2.ren σ)) i j v↔F9 (fun x=>ρ (σ x)) F w S rb el ov i j v:=by
 unfold F9
 cases ov with
 |none=>exact Iff.rfl
 |some x=>
  simp only [Option.map_some]
  split
  ·exact J7
  ·exact Iff.rfl
theorem PO (hσ: ∀x y,σ x=σ y→x=y) {S:Nat→Prop} {b:Nat} {ob:Ob}:nH ρ F w S (σ b) (ob.ren σ)↔nH (fun x=>ρ (σ x)) F w S b ob:=by
 cases ob with
 |cells E cs=>
  constructor
  ·rintro ⟨k,cap,vs,h1,h2,h3,h4⟩;exact⟨k,cap,vs,h1,h2,h3,CP.1 h4⟩
  ·rintro ⟨k,cap,vs,h1,h2,h3,h4⟩;exact⟨k,cap,vs,h1,h2,h3,CP.2 h4⟩
 |fcells E ds=>exact Iff.rfl
 |arr E esz len el=>exact Iff.rfl
 |rows E esz len el ov=>
  constructor
  ·rintro (h|⟨k,base,cap,vs,rb,h1,h2,h3,h4,h5,h6,h7,h8,h9⟩)
   ·exact .inl h
   ·exact .inr ⟨k,base,cap,vs,rb,h1,h2,h3,h4,h5,h6,fun i hi j hj=>by obtain⟨u,hu,hr⟩:=h7 i hi j hj;exact⟨u,hu,Pn.1 hr⟩,h8,h9⟩
  ·rintro (h|⟨k,base,cap,vs,rb,h1,h2,h3,h4,h5,h6,h7,h8,h9⟩)
   ·exact .inl h
   ·exact .inr ⟨k,base,cap,vs,rb,h1,h2,h3,h4,h5,h6,fun i hi j hj=>by obtain⟨u,hu,hr⟩:=h7 i hi j hj;exact⟨u,hu,Pn.2 hr⟩,h8,h9⟩
 |map m=>
  have hk: ∀i v,zY ρ F w m.kagg m.ksz (fun j=> .d (m.key i j)) v↔zY (fun x=>ρ (σ x)) F w m.kagg m.ksz (fun j=> .d (m.key i j)) v:=fun i v=>Ki (c:=fun j=> .d (m.key i j))
  constructor
  ·rintro ⟨k,base,cap,es,h1,h2,h3,h4,h5,h6⟩
   refine⟨k,base,cap,es,h1,h2,h3,h4,fun i hi j hj x hx=> ?_,fun i hi=> ?_⟩
   ·obtain⟨y,hy,e⟩:=List.mem_map.1 (h5 i hi j hj (σ x) (O8.2 ⟨x,hx,rfl⟩))
    rw [←hσ _ _ e];exact hy
   ·obtain⟨e,g1,g2,g3,g4⟩:=h6 i hi;exact⟨e,g1,g2,(hk _ _).1 g3,Ki.1 g4⟩
  ·rintro ⟨k,base,cap,es,h1,h2,h3,h4,h5,h6⟩
   refine⟨k,base,cap,es,h1,h2,h3,h4,fun i hi j hj x hx=> ?_,fun i hi=> ?_⟩
   ·obtain⟨y,hy,e⟩:=O8.1 hx
    exact List.mem_map.2 ⟨y,h5 i hi j hj y hy,e⟩
   ·obtain⟨e,g1,g2,g3,g4⟩:=h6 i hi;exact⟨e,g1,g2,(hk _ _).2 g3,Ki.2 g4⟩
 |loop r st sl=>
  constructor
  ·rintro ⟨k,base,cap,fn,tmps,D,h1,h2,h3,h4,h5,h6⟩
   refine⟨k,base,cap,fn,tmps,D,h1,h2,h3,h4,h5,fun t tv ht=> ?_⟩
   obtain⟨v,hv,hr⟩:=h6 t (tv.ren σ) (by rw [zm,ht];rfl)
   exact⟨v,hv,Gb.1 hr⟩
  ·rintro ⟨k,base,cap,fn,tmps,D,h1,h2,h3,h4,h5,h6⟩
   refine⟨k,base,cap,fn,tmps,D,h1,h2,h3,h4,h5,fun t tv ht=> ?_⟩
   rw [zm]at ht
   cases hg:get sl t with
   |none=>rw [hg]at ht;cases ht
   |some tv'=>rw [hg]at ht;cases ht;obtain⟨v,hv,hr⟩:=h6 t tv' hg;exact⟨v,hv,Gb.2 hr⟩
 |coll=>exact Iff.rfl
 |suf b0 l esz=>exact Iff.rfl
end
structure Rn (σ τ:Nat→Nat):Prop where
 st: ∀x,σ (τ x)=x
 ts: ∀x,τ (σ x)=x
theorem Rn.inj {σ τ:Nat→Nat} (r:Rn σ τ) {x y:Nat} (h:σ x=σ y):x=y:=by rw [←r.ts x,h,r.ts]
theorem O3 {σ τ:Nat→Nat} (r:Rn σ τ): ∀(h:List (Nat × Option Ob)) (b:Nat),get (Aq σ h) (σ b)=(get h b).map (Option.map (Ob.ren σ))
 |[],_=>rfl
 |(k,x)::h,b=>by
  show get ((σ k,x.map (Ob.ren σ))::Aq σ h) (σ b)=_
  rw [aT,aT,O3 r h b]
  by_cases e:k=b
  ·rw [if_pos e,if_pos (by rw [e])];rfl
  ·rw [if_neg e,if_neg (fun e'=>e (r.inj e'))]
theorem NZ {σ τ:Nat→Nat} (r:Rn σ τ) {B:Base} {ρ0:Nat→Option Pl} {ρ:Nat→Option Pl} {F:Nat→Prop} {w:World} {h:List (Nat × Option Ob)}:
  HI B ρ F w (dm (Aq σ h))↔HI {B with ρ:=ρ0} (fun x=>ρ (σ x)) F w (dm h):=by
 have hg: ∀b,dm (Aq σ h) (σ b)=(dm h b).map (Option.map (Ob.ren σ)):=O3 r h
 have hg': ∀b,dm (Aq σ h) b=(dm h (τ b)).map (Option.map (Ob.ren σ)):=fun b=>by rw [←hg,r.st]
 have key: ∀b ob,dm h b=some (some ob)→dm (Aq σ h) (σ b)=some (some (ob.ren σ)):=fun b ob hh=>by rw [hg,hh];rfl
 have key': ∀b ob',dm (Aq σ h) b=some (some ob')→ ∃ob,dm h (τ b)=some (some ob)∧ob'=ob.ren σ:=fun b ob' hh=>by
  rw [hg']at hh
  cases h1:dm h (τ b)with
  |none=>rw [h1]at hh;cases hh
  |some o=>cases o with
   |none=>rw [h1]at hh;cases hh
   |some ob=>rw [h1]at hh;cases hh;exact⟨ob,rfl,rfl⟩
 constructor
 ·rintro ⟨ft,hi⟩
  refine⟨fun b=>ft (σ b),fun b ob hh=>(PO fun _ _=>r.inj).1 (hi.obj _ _ (key b ob hh)),fun b ob k hh hk=>hi.blk _ _ k (key b ob hh) hk,fun b b' ob ob' k h1 h2 k1 k2=>r.inj (hi.dis _ _ _ _ k (key _ _ h1) (key _ _ h2) k1 k2),fun b hb=>hi.fresh _ ?_⟩
  rw [hg,hb];rfl
 ·rintro ⟨ft,hi⟩
  refine⟨fun b=>ft (τ b),fun b ob' hh=> ?_,fun b ob' k hh hk=> ?_,fun b b' ob ob' k h1 h2 k1 k2=> ?_,fun b hb=> ?_⟩
  ·obtain⟨ob,h1,rfl⟩:=key' b ob' hh
   have:=(PO fun _ _=>r.inj).2 (hi.obj _ _ h1)
   rwa [r.st]at this
  ·obtain⟨ob,h1,rfl⟩:=key' b ob' hh
   exact hi.blk _ _ k h1 hk
  ·obtain⟨o1,g1,_⟩:=key' b ob h1
   obtain⟨o2,g2,_⟩:=key' b' ob' h2
   have:=hi.dis _ _ _ _ k g1 g2 k1 k2
   rw [←r.st b,this,r.st]
  ·have:=hi.fresh (τ b) (by
    have:=hg' b;rw [hb]at this
    cases h1:dm h (τ b)with
    |none=>rfl
    |some o=>rw [h1]at this;cases this)
   simpa [r.st]using this
theorem Fn.ren {σ τ:Nat→Nat} (r:Rn σ τ) {P:Program} {f:FuncId} {args:List SV} {hin hout:List (Nat × Option Ob)} {res:TV} (h:Fn P f args hin res hout):
  Fn P f (args.map (SV.ren σ)) (Aq σ hin) (res.ren σ) (Aq σ hout):=by
 refine⟨h.1,fun B vs hF hi hr=> ?_⟩
 have hc:=h.2 {B with ρ:=fun x=>B.ρ (σ x)} vs hF ((NZ r).1 hi) (Aa (σ:=σ).1 hr)
 refine Calls.mono hc ?_
 rintro e w' ⟨v,ρ',F',rfl,hf,h1,h2⟩
 refine⟨v,fun x=>ρ' (τ x),F',rfl, ?_, ?_, ?_⟩
 ·refine⟨hf.os,hf.tape,hf.output,hf.size,hf.mem,fun b p hb=>hf.rho (τ b) p ?_,hf.fz,hf.bf⟩
  show B.ρ (σ (τ b))=some p
  rw [r.st];exact hb
 ·refine(NZ (ρ0:=fun x=>B.ρ (σ x)) r).2 ?_
  have:(fun x=>(fun x=>ρ' (τ x)) (σ x))=ρ':=by funext x;simp [r.ts]
  rw [this];exact h1
 ·refine Gb.2 ?_
  have:(fun x=>(fun x=>ρ' (τ x)) (σ x))=ρ':=by funext x;simp [r.ts]
  rw [this];exact h2
def sw (a b x:Nat):Nat:=bif Nat.beq x a then b else bif Nat.beq x b then a else x
def swp:List (Nat × Nat)→Nat→Nat
 |[],x=>x
 |(a,b)::l,x=>swp l (sw a b x)
def Gc:List (Nat × Nat)→Nat→Nat
 |[],x=>x
 |(a,b)::l,x=>sw a b (Gc l x)
theorem Ta (a b x:Nat):sw a b x=if x=a then b else if x=b then a else x:=by
 unfold sw
 cases h:Nat.beq x a with
 |true=>rw [if_pos (Nat.eq_of_beq_eq_true h)];rfl
 |false=>
  rw [if_neg (Nat.ne_of_beq_eq_false h)]
  cases h':Nat.beq x b with
  |true=>rw [if_pos (Nat.eq_of_beq_eq_true h')];rfl
  |false=>rw [if_neg (Nat.ne_of_beq_eq_false h')];rfl
theorem aag (a b x:Nat):sw a b (sw a b x)=x:=by
 rw [Ta a b x]
 by_cases h1:x=a
 ·rw [if_pos h1,Ta]
  by_cases h3:b=a
  ·rw [if_pos h3,h1,h3]
  ·rw [if_neg h3,if_pos rfl,h1]
 ·rw [if_neg h1]
  by_cases h2:x=b
  ·rw [if_pos h2,Ta,if_pos rfl,h2]
  ·rw [if_neg h2,Ta,if_neg h1,if_neg h2]
theorem Oa: ∀l:List (Nat × Nat),Rn (swp l) (Gc l)
 |[]=> ⟨fun _=>rfl,fun _=>rfl⟩
 |(a,b)::l=> ⟨fun x=>by show swp l (sw a b (sw a b (Gc l x)))=x;rw [aag,(Oa l).st],fun x=>by show sw a b (Gc l (swp l (sw a b x)))=x;rw [(Oa l).ts,aag]⟩
theorem Fn.Yp {P:Program} {f:FuncId} {args args':List SV} {hin hin' hout hout':List (Nat × Option Ob)} {res res':TV} (l:List (Nat × Nat)) (h:Fn P f args hin res hout)
  (e1:args.map (SV.ren (swp l))=args') (e2:Aq (swp l) hin=hin') (e3:res.ren (swp l)=res') (e4:Aq (swp l) hout=hout'):Fn P f args' hin' res' hout':=by
 subst e1;subst e2;subst e3;subst e4
 exact h.ren (Oa l)
theorem Fn.leH {P:Program} {f:Nat} {args args':List SV} {hin hin' hout:List (Nat × Option Ob)} {res:TV} (h:Fn P f args hin res hout) (hl:Pb args' args) (hh:rY hin' hin):Fn P f args' hin' res hout:=
 ⟨h.1,fun B vs hF hi hr=>h.2 B vs hF (hi.le hh) (hl.Vf hr)⟩
theorem Fn.leR {P:Program} {f:Nat} {args:List SV} {hin hout hout':List (Nat × Option Ob)} {res res':TV} (h:Fn P f args hin res hout) (hl:dY res res') (hh:rY hout hout'):Fn P f args hin res' hout':=
 ⟨h.1,fun B vs hF hi hr=>Calls.mono (h.2 B vs hF hi hr) fun e w' ⟨v,ρ',F',h1,h2,h3,h4⟩=> ⟨v,ρ',F',h1,h2,h3.le hh,hl _ _ _ _ h4⟩⟩
def SL:DV→Bool
 | .int _ _| .bool _| .str _| .nilp| .nilf| .nilm=>true
 |_=>false
def Mx:CV→Bool
 | .d x=>SL x
 |_=>false
def SC:SV→Bool
 | .one c=>Mx c
 | .agg cs=>cs.all Mx
def Z4:TV→Bool
 | .v s=>SC s
 | .iG l=>l.all SC
section
variable {ρ ρ':Nat→Option Pl} {F F':Nat→Prop} {w w':World}
theorem MI {c:CV} {v:Value} (h:Mx c=true) (hr:jo ρ F w c v):jo ρ' F' w' c v:=by
 cases c with
 |d x=>cases x<;>first|exact hr|simp [Mx,SL]at h
 |_=>simp [Mx]at h
theorem MN: ∀{cs:List CV} {vs:List Value},cs.all Mx=true→dD ρ F w cs vs→dD ρ' F' w' cs vs
 |[],[],_,_=>trivial
 |c::cs,v::vs,h,⟨h1,h2⟩=>by
  simp only [List.all_cons,Bool.and_eq_true]at h
  exact⟨MI h.1 h1,MN h.2 h2⟩
 |[],_::_,_,h=>h.elim
 |_::_,[],_,h=>h.elim
theorem MF {s:SV} {v:Value} (h:SC s=true) (hr:iX ρ F w s v):iX ρ' F' w' s v:=by
 cases s with
 |one c=>exact MI h hr
 |agg cs=>obtain⟨vs,e,hl⟩:=hr;exact⟨vs,e,MN h hl⟩
theorem La: ∀{cs:List SV} {vs:List Value},cs.all SC=true→gD ρ F w cs vs→gD ρ' F' w' cs vs
 |[],[],_,_=>trivial
 |c::cs,v::vs,h,⟨h1,h2⟩=>by
  simp only [List.all_cons,Bool.and_eq_true]at h
  exact⟨MF h.1 h1,La h.2 h2⟩
 |[],_::_,_,h=>h.elim
 |_::_,[],_,h=>h.elim
theorem TA {t:TV} {v:Value} (h:Z4 t=true) (hr:dG ρ F w t v):dG ρ' F' w' t v:=by
 cases t with
 |v s=>exact MF h hr
 |iG l=>obtain⟨vs,e,hl⟩:=hr;exact⟨vs,e,La h hl⟩
end
theorem Fn.xP {P:Program} {f:Nat} {args args':List SV} {hin:List (Nat × Option Ob)} {res:TV} {frz:List Nat} {p:List Prop} (h:Fn P f args [] res []) (he:Mj ⟨frz,[]⟩ (dm hin) args'=some (p,args)) (hp:All p) (hres:Z4 res=true):
  Fn P f args' hin res hin:=by
 refine⟨h.1,fun B vs hF hi hr=> ?_⟩
 obtain⟨ft,hi⟩:=hi
 have hfr:Fr B B.ρ B.F B.w:=⟨rfl,rfl,rfl,Nat.le_refl _,fun _ _ _=>rfl,fun _ _ h=>h,fun k hk=> ⟨hF k hk, .inl hk⟩,fun _ h=>h⟩
 have hr2:=Ia (f:=⟨frz,[]⟩) List.nodup_nil hi he hp hr
 have hF2: ∀k,EP ft B.F (dm hin) frz k→k<B.w.heap.size:=fun k hk=>by
  rcases hk with hk|⟨b,ob,_,hob,hk⟩
  ·exact hF k hk
  ·exact(hi.blk b ob k hob hk).1
 refine Calls.mono (h.2 ⟨B.w,Ew B.ρ [],EP ft B.F (dm hin) frz,(fun _=>False),0⟩ vs hF2 ⟨fun _ _=>False,⟨fun _ _ hh=>by simp [dm,get]at hh,fun _ _ _ hh=>by simp [dm,get]at hh,fun _ _ _ _ _ hh=>by simp [dm,get]at hh,fun _ _=>rfl⟩⟩ hr2) ?_
 rintro e w' ⟨v,ρ',F',rfl,h1,h2,h3⟩
 have hmem: ∀k,k<B.w.heap.size→w'.heap[k]? =B.w.heap[k]? :=fun k hk=>h1.mem k hk fun hh=>hh
 have g:Gr B.ρ B.F B.w B.ρ B.F w':=⟨fun _ _ h=>h,fun _ h=>h,fun k hk=>hmem k (hF k hk)⟩
 refine⟨v,B.ρ,B.F,rfl,⟨h1.os,h1.tape,h1.output,h1.size,fun k hk _=>hmem k hk,fun _ _ h=>h,fun k hk=> ⟨Nat.lt_of_lt_of_le (hF k hk) h1.size, .inl hk⟩,fun _ h=>h⟩,⟨ft, ?_⟩,TA hres h3⟩
 exact hi.step g hfr h1.size (fun _=>False) (fun b ob _ hb=> ⟨hb,fun k hk=>hmem k (hi.blk b ob k hb hk).1,fun _=>Iff.rfl⟩) (fun _ _ h=>h.elim) (fun _ _ _ h=>h.elim) (fun _ _ _ _ _ h=>h.elim) (fun k hk=> .inl hk) hi.fresh
section
variable {κ α:Type}
def dh (eq:κ→κ→Bool) (k:κ):List (κ × α)→Option α
 |[]=>none
 |(k',v)::l=>bif eq k k' then some v else dh eq k l
def dZ (eq:κ→κ→Bool) (k:κ) (v:α):List (κ × α)→List (κ × α)
 |[]=>[(k,v)]
 |(k',v')::l=>bif eq k k' then(k,v)::l else(k',v')::dZ eq k v l
def gm (a b:Int):Bool:=decide (a=b) && true
def vG [Inhabited κ] (kc:κ→Nat→DV) (l:List (κ × α)):Nat→Nat→DV:=aN kc (l.map (·.1))
def xH [Inhabited α] (vc:α→Nat→DV) (l:List (κ × α)):Nat→Nat→CV:=fun i j=> .d (aN vc (l.map (·.2)) i j)
def Kl [Inhabited κ] [Inhabited α] (K V:TypeId) (ka va:Bool) (ksz vsz:Nat) (kc:κ→Nat→DV) (vc:α→Nat→DV) (l:List (κ × α)):Ob:= .map ⟨K,V,ka,va,ksz,vsz,l.length,vG kc l,xH vc l,[]⟩
section
variable [Inhabited κ] [Inhabited α] {eq:κ→κ→Bool} {kc:κ→Nat→DV} {vc:α→Nat→DV} {ks:List (Option IntKind)} {ksz vsz:Nat}
theorem zx (x:κ × α) (l:List (κ × α)):vG kc (x::l) 0=kc x.1:=rfl
theorem rZ (x:κ × α) (l:List (κ × α)) (i:Nat):vG kc (x::l) (i+1)=vG kc l i:=by
 funext j;simp [vG,aN,at']
theorem Xb (x:κ × α) (l:List (κ × α)):xH vc (x::l) 0=fun j=> .d (vc x.2 j):=rfl
theorem FT (x:κ × α) (l:List (κ × α)) (i:Nat):xH vc (x::l) (i+1)=xH vc l i:=by
 funext j;simp [xH,aN,at']
theorem Oj (hk: ∀x,aJ ks (dM (kc x) 0 ksz)=true): ∀(l:List (κ × α)) (i:Nat),i<l.length→aJ ks (dM (vG kc l i) 0 ksz)=true
 |l,i,_=>hk _
theorem zO (hk: ∀x,aJ ks (dM (kc x) 0 ksz)=true) (he: ∀a b,kF (dM (kc a) 0 ksz) (dM (kc b) 0 ksz)=some (eq a b)) (l:List (κ × α)) (k:κ) (d:α) {kd:List DV} {zero cs:List CV}
  (hkd:kd=dM (kc k) 0 ksz) (hz:zero=gu (fun j=> .d (vc d j)) 0 vsz) (hcs:cs=gu (fun j=> .d (vc ((dh eq k l).getD d) j)) 0 vsz):
  EU ks ksz vsz l.length (vG kc l) (xH vc l) kd zero (dh eq k l).isSome cs:=by
 subst hkd
 refine⟨Oj hk l, ?_⟩
 have key: ∀(l:List (κ × α)),((dh eq k l).isSome=true∧ ∃i,i<l.length∧kF (dM (kc k) 0 ksz) (dM (vG kc l i) 0 ksz)=some true∧(∀i',i'<i→kF (dM (kc k) 0 ksz) (dM (vG kc l i') 0 ksz)=some false)∧gu (fun j=> .d (vc ((dh eq k l).getD d) j)) 0 vsz=gu (xH vc l i) 0 vsz)∨
   ((dh eq k l).isSome=false∧(∀i,i<l.length→kF (dM (kc k) 0 ksz) (dM (vG kc l i) 0 ksz)=some false)):=by
  intro l
  induction l with
  |nil=>right;exact⟨rfl,fun i hi=>absurd hi (Nat.not_lt_zero i)⟩
  |cons x l ih=>
   obtain⟨k',v⟩:=x
   cases hb:eq k k' with
   |true=>
    left
    refine⟨by simp [dh,hb],0,by simp,by rw [zx,he,hb],fun i' hi'=>absurd hi' (Nat.not_lt_zero i'), ?_⟩
    simp only [dh,hb,cond_true,Option.getD_some];rfl
   |false=>
    have h0:dh eq k ((k',v)::l)=dh eq k l:=by simp [dh,hb]
    rw [h0]
    rcases ih with⟨h1,i,h2,h3,h4,h5⟩|⟨h1,h2⟩
    ·left
     refine⟨h1,i+1,by simp;omega,by rw [rZ];exact h3,fun i' hi'=> ?_,by rw [FT];exact h5⟩
     cases i' with
     |zero=>rw [zx,he,hb]
     |succ i'=>rw [rZ];exact h4 i' (by omega)
    ·right
     refine⟨h1,fun i hi=> ?_⟩
     cases i with
     |zero=>rw [zx,he,hb]
     |succ i=>rw [rZ];exact h2 i (by simpa using hi)
 rcases key l with⟨h1,i,h2,h3,h4,h5⟩|⟨h1,h2⟩
 ·exact .inl ⟨h1,i,h2,h3,h4,hcs.trans h5⟩
 ·refine .inr ⟨h1,h2, ?_⟩
  rw [hcs,hz]
  cases hm:dh eq k l with
  |none=>rfl
  |some v=>rw [hm]at h1;cases h1
theorem su (hk: ∀x,aJ ks (dM (kc x) 0 ksz)=true) (he: ∀a b,kF (dM (kc a) 0 ksz) (dM (kc b) 0 ksz)=some (eq a b)) (l:List (κ × α)) (k:κ) (v:α) {kd:List DV} {vd:List CV}
  (hkd:kd=dM (kc k) 0 ksz) (hvd:vd=gu (fun j=> .d (vc v j)) 0 vsz):
  Ep ks ksz vsz l.length (vG kc l) (xH vc l) kd vd [] (dZ eq k v l).length (vG kc (dZ eq k v l)) (xH vc (dZ eq k v l)):=by
 subst hkd;subst hvd
 refine⟨Oj hk l,fun i _ j _ x hx=>by simp [xH,CV.fO]at hx, ?_⟩
 induction l with
 |nil=>exact⟨0,fun i' hi'=>absurd hi' (Nat.not_lt_zero i'), .inr ⟨rfl,rfl⟩,rfl,rfl,fun i' hi'=>absurd hi' (Nat.not_lt_zero i')⟩
 |cons x l ih=>
  obtain⟨k',v'⟩:=x
  cases hb:eq k k' with
  |true=>
   have h0:dZ eq k v ((k',v')::l)=(k,v)::l:=by simp [dZ,hb]
   rw [h0]
   refine⟨0,fun i' hi'=>absurd hi' (Nat.not_lt_zero i'), .inl ⟨by simp,by rw [zx,he,hb],rfl⟩,rfl,rfl,fun i' hi' hne=> ?_⟩
   cases i' with
   |zero=>exact absurd rfl hne
   |succ i'=>simp only [rZ,FT,and_self]
  |false=>
   have h0:dZ eq k v ((k',v')::l)=(k',v')::dZ eq k v l:=by simp [dZ,hb]
   rw [h0]
   obtain⟨i,h1,h2,h3,h4,h5⟩:=ih
   refine⟨i+1,fun i' hi'=> ?_, ?_,by rw [rZ];exact h3,by rw [FT];exact h4,fun i' hi' hne=> ?_⟩
   ·cases i' with
    |zero=>rw [zx,he,hb]
    |succ i'=>rw [rZ];exact h1 i' (by omega)
   ·rcases h2 with⟨a,b,c⟩|⟨a,b⟩
    ·exact .inl ⟨by simp;omega,by rw [rZ];exact b,by simp [c]⟩
    ·exact .inr ⟨by simp [a],by simp [b]⟩
   ·cases i' with
    |zero=>simp only [zx,Xb,and_self]
    |succ i'=>
     simp only [rZ,FT]
     exact h5 i' (by simpa using hi') (by omega)
end
end
theorem Vt {n sz:Nat} {cs:List CV} {g:Nat→List CV} (h: ∀q,q<n→(cs.drop (q*sz)).take sz=g q) {i:Int} (hi:0≤i∧i<(n:Int)):(cs.drop (i.toNat*sz)).take sz=g i.toNat:=h _ (by omega)
theorem Wv {n sz m:Nat} (hm:n*sz≤m) {i:Int} (hi:0≤i∧i<(n:Int)):i.toNat*sz+sz≤m:=by
 have:(i.toNat+1)*sz≤n*sz:=Nat.mul_le_mul_right _ (by omega)
 rw [Nat.add_mul,Nat.one_mul]at this;omega
def FU:List Nat→Code→Code
 |[],c=>c
 |i::l,c=>match c,i with
  | .seq x _,0=>FU l x
  | .seq _ y,_=>FU l y
  | .cond _ x _,0=>FU l x
  | .cond _ _ y,_=>FU l y
  | .block _ x,_=>FU l x
  | .loop x,_=>FU l x
  | .scope x,_=>FU l x
  | .rangeFunc _ _ x _,0=>FU l x
  | .rangeFunc _ _ _ y,_=>FU l y
  |c,_=>c
def jX (f:Func):Code:=match f.body with|some c=>c|none=> .skip
theorem Sz.of {x y:Option Ob} (h:x=y):Sz x y:=h ▸ .refl x
theorem xV {x y:List (Nat × Option Ob)} (h:x=y):rY x y:=h ▸ rY.refl x
section
variable {rd:Option Nat} {P:Program} {B:Base} {N:Nat} {L:List Nat} {Q:Exit→St→Prop} {st st':St}
theorem om {c c':Code} (h:c'=c) (hw:bW rd P B N L c Q st):bW rd P B N L c' Q st:=h ▸ hw
theorem lC {c:Code} {st0:St} (h:st0=st) (hw:bW rd P B N L c Q st):bW rd P B N L c Q st0:=h ▸ hw
theorem jd {g:Operand} {ps:List Nat} {assign body:Code} (lb:Nat) (sl:List (Nat × TV)) (outs:List Code) (ids:List Nat) (res:TV) (hout:List (Nat × Option Ob)) (gv:TV) (f:FuncId) (c1 c2:List CV) (hin:List (Nat × Option Ob)) (args:List SV) (r':nI) (stt:Nat) (sl':List (Nat × TV)) {e:Exit}
  (hg:Ky st g=some gv) (hf:Y4 gv=some (f,c1,c2)) (hlb:get st.heap lb=none) (hsl:sl.map (fun p=>get st.slots p.1)=sl.map fun p=>some p.2)
  (hin1:dV ids (ids.map (dm ((lb,some (.loop ⟨ps,assign,body,N,outs⟩ 0 sl))::st.heap)))=some hin)
  (hok:(oH ((c1++CV.yl lb::c2).flatMap CV.fO) ids && oH (jG (ids.map (dm ((lb,some (.loop ⟨ps,assign,body,N,outs⟩ 0 sl))::st.heap)))) ids && kN ids (hout.map (·.1)) ((hout.map (·.1)).map (dm ((lb,some (.loop ⟨ps,assign,body,N,outs⟩ 0 sl))::st.heap))))=true)
  (ha:args=(c1++CV.yl lb::c2).map .one) (hfn:Fn P f args hin res hout) (hlo:get hout lb=some (some (.loop r' stt sl'))) (hr':r'.outs=outs) (hx:Dm outs stt e)
  (hi:bZ B N L ⟨st.slots,(lb,none)::(hout++(ids.map (fun i=>(i,none))++st.heap))⟩ st') (hQ:Q e st'):bW none P B N L (.rangeFunc g ps.toArray assign body) Q st:=by
 subst ha
 refine Df (Ls lb sl outs ids res hout hg hf hlb (fun p hp=> ?_) hin1 hok hfn hlo hr' hx ⟨st',hi,hQ⟩)
 obtain⟨j,hj⟩:=List.getElem?_of_mem hp
 have:=congrArg (fun l=>l[j]?) hsl
 simp only [List.getElem?_map,hj,Option.map_some,Option.some.injEq]at this
 exact this
end
section
variable (rd:Option Nat) (P:Program) (B:Base) (N:Nat) (L:List Nat) (c:Code) (Q:Exit→St→Prop)
def LoopN:Nat→St→Prop
 |0,_=>False
 |m+1,st=>bW rd P B N L c (fun e st'=>match e with| .normal=>LoopN m st'|e=>Q e st') st
end
section
variable {rd:Option Nat} {P:Program} {B:Base} {N:Nat} {L:List Nat} {Q:Exit→St→Prop} {st:St} {c:Code}
theorem Au (m:Nat) (h:bW rd P B N L c (fun e st'=>match e with| .normal=>LoopN rd P B N L c Q m st'|e=>Q e st') st):LoopN rd P B N L c Q (m+1) st:=h
theorem Tc (m:Nat) (h:LoopN rd P B N L c Q m st):bW rd P B N L (.loop c) Q st:=by
 intro a w hc
 refine wpIn_loop_rounds m ?_
 revert st a w
 induction m with
 |zero=>intro st h;exact h.elim
 |succ m ih=>
  intro st h a w hc
  rw [roundsIn_succ]
  refine wpIn_mono (h a w hc) ?_
  rintro e a' w' ⟨st',h1,h2⟩
  cases e with
  |normal=>exact ih h1 a' w' h2
  |exit id=>exact⟨st',h1,h2⟩
  |goto l=>exact⟨st',h1,h2⟩
  |ret=>exact⟨st',h1,h2⟩
  |panic v=>exact⟨st',h1,h2⟩
  |outgrown=>exact⟨st',h1,h2⟩
end
theorem Ou {P:Program} {b:Frame} {a:Act} {k:List Item} {cs:List Frame} {w:World} {c:Code}:Go.step P (lone (b.atR a (.code (.scope c)::k)) cs w)= .next (lone (b.atR a (.code c:: .inScope c::k)) cs w):=
 step_lone_go (by simp [stepG,stepG.exec,Frame.atR])
theorem LP {P:Program} {b:Frame} {a:Act} {k:List Item} {cs:List Frame} {w:World} {c:Code}:Go.step P (lone (b.atR a (.inScope c::k)) cs w)= .next (lone (b.atR a k) cs w):=
 step_lone_go (by simp [stepG,stepG.exec,Frame.atR])
section
variable {rd:Option Nat} {P:Program} {B:Base} {N:Nat} {L:List Nat} {st:St}
end
section
variable {rd:Option Nat} {P:Program} {B:Base} {N:Nat} {L:List Nat} {Q:Exit→St→Prop} {st:St}
end
theorem Yl.leH {P:Program} {b:Nat} {args args':List SV} {hin hin' hout:List (Nat × Option Ob)} {res:TV} (h:Yl P b args hin res hout) (hl:Pb args' args) (hh:rY hin' hin):Yl P b args' hin' res hout:=
 fun B vs l base cap hF hi hr hb=>h B vs l base cap hF (hi.le hh) (hl.Vf hr) hb
theorem Yl.leR {P:Program} {b:Nat} {args:List SV} {hin hout hout':List (Nat × Option Ob)} {res res':TV} (h:Yl P b args hin res hout) (hl:dY res res') (hh:rY hout hout'):Yl P b args hin res' hout':=by
 intro B vs l base cap hF hi hr hb
 obtain⟨fn,tmps,assign,body,h1,h2⟩:=h B vs l base cap hF hi hr hb
 refine⟨fn,tmps,assign,body,h1,h2.mono ?_⟩
 rintro e w' ⟨v,rfl,ρ',F',g1,g2,g3⟩
 exact⟨v,rfl,ρ',F',g1,g2.le hh,hl _ _ _ _ g3⟩
theorem Yl.Yp {P:Program} {b b':Nat} {args args':List SV} {hin hin' hout hout':List (Nat × Option Ob)} {res res':TV} (l:List (Nat × Nat)) (h:Yl P b args hin res hout)
  (e0:swp l b=b') (e1:args.map (SV.ren (swp l))=args') (e2:Aq (swp l) hin=hin') (e3:res.ren (swp l)=res') (e4:Aq (swp l) hout=hout'):Yl P b' args' hin' res' hout':=by
 subst e0;subst e1;subst e2;subst e3;subst e4
 have r:=Oa l
 intro B vs lp base cap hF hi hr hb
 obtain⟨fn,tmps,assign,body,h1,h2⟩:=h {B with ρ:=fun x=>B.ρ (swp l x)} vs lp base cap hF ((NZ r).1 hi) (Aa (σ:=swp l).1 hr) hb
 refine⟨fn,tmps,assign,body,h1,h2.mono ?_⟩
 rintro e w' ⟨v,rfl,ρ',F',hf,g1,g2⟩
 refine⟨v,rfl,fun x=>ρ' (Gc l x),F', ?_, ?_, ?_⟩
 ·refine⟨hf.os,hf.tape,hf.output,hf.size,hf.mem,fun b p hb=>hf.rho (Gc l b) p ?_,hf.fz,hf.bf⟩
  show B.ρ (swp l (Gc l b))=some p
  rw [r.st];exact hb
 ·refine(NZ (ρ0:=fun x=>B.ρ (swp l x)) r).2 ?_
  have:(fun x=>(fun x=>ρ' (Gc l x)) (swp l x))=ρ':=by funext x;simp [r.ts]
  rw [this];exact g1
 ·refine Gb.2 ?_
  have:(fun x=>(fun x=>ρ' (Gc l x)) (swp l x))=ρ':=by funext x;simp [r.ts]
  rw [this];exact g2
def DLs:List DV→List DV→Prop
 |[],[]=>True
 |x::xs,y::ys=>gX x y∧DLs xs ys
 |_,_=>False
theorem DLs.get: ∀{xs ys:List DV},DLs xs ys→xs.length=ys.length∧ ∀j,gX (xs.getD j .nilp) (ys.getD j .nilp)
 |[],[],_=> ⟨rfl,fun _=> .refl _⟩
 |x::xs,y::ys,⟨h1,h2⟩=>by
  obtain⟨g1,g2⟩:=DLs.get h2
  refine⟨by simp [g1],fun j=> ?_⟩
  cases j with
  |zero=>exact h1
  |succ j=>simpa using g2 j
 |[],_::_,h=>h.elim
 |_::_,[],h=>h.elim
theorem Nn {ds es:List DV} {off:Nat} (h:DLs ds es):gX (kK ds off) (kK es off):=by
 obtain⟨h1,h2⟩:=h.get
 unfold kK
 rw [h1]
 exact gX.ip' (Nat.le_refl _) fun j _=>h2 _
def ni {α:Type} [Inhabited α] (c:α→Nat→EV) (l:List α):Nat→Nat→EV:=fun i j=>c (at' l i) j
section
variable {α:Type} [Inhabited α]
theorem Cy (c:α→Nat→EV) (l:List α) (n esz i off:Nat) (v:EV) (x:α) (hn:n=l.length) (h: ∀j,j<esz→c x j=if j=off then v else c (at' l i) j):R5 n esz (XK (ni c l) i off v) (ni c (l.set i x)):=by
 intro i' hi' j hj
 unfold XK ni
 by_cases e:i'=i
 ·subst e
  rw [fJ (by omega),h j hj]
  by_cases e2:j=off<;>simp [e2]
 ·rw [iF (Ne.symm e),if_neg (fun hh=>e hh.1)]
theorem YO (c:α→Nat→EV) (l m:List α) (esz:Nat) (elx:Nat→Nat→DV) (h: ∀i,i<m.length→ ∀j,j<esz→Tp (elx i j) (c (at' m i) j)):JG l.length m.length esz (ni c l) elx (ni c (l++m)):=by
 refine⟨fun i hi j _=> ?_,fun i hi j hj=> ?_⟩
 ·unfold ni;rw [Bw hi]
 ·unfold ni
  rw [zX (by omega),Nat.add_sub_cancel_left]
  exact h i hi j hj
end
theorem Fn.nn {P:Program} {f:Nat} {esz len:Nat} {el:Nat→Nat→DV} {hin hout:List (Nat × Option Ob)} {res:TV} (h1:Fn P f [.one (.d (.sl (some true) esz len el))] hin res hout) (h2:len=0→Fn P f [.one (.d (.sl (some false) esz len el))] hin res hout):
  Fn P f [.one (.d (.sl none esz len el))] hin res hout:=by
 refine⟨h1.1,fun B vs hF hi hr=> ?_⟩
 match vs,hr with
 |[v],⟨⟨a,cap,hv,_,_,h3,h4,h5⟩,_⟩=>
  cases a with
  |none=>exact(h2 (h3 rfl).1).2 B [v] hF hi ⟨⟨none,cap,hv,(fun e=>by cases e),fun _=>rfl,h3,h4,h5⟩,trivial⟩
  |some ad=>exact h1.2 B [v] hF hi ⟨⟨some ad,cap,hv,fun _ e=>(by cases e),(fun e=>by cases e),h3,h4,h5⟩,trivial⟩
 |[],hr=>exact hr.elim
 |_::_::_,hr=>exact hr.2.elim
section
variable {B:Base} {N:Nat} {L:List Nat} {st:St}
theorem bZ.Xl {p q b b' E esz n:Nat} {el:Nat→Nat→DV} {E0:TypeId} {cs:List CV} {nn:Bool} {len:Nat} (hp:get st.heap p=some (some (.cells E0 cs))) (hq:cs[q]? =some (.own b nn len)) (hb:get st.heap b=some (some (.arr E esz n el))) (hb':get st.heap b'=none):
  bZ B N L st ⟨st.slots,(p,some (.cells E0 (cs.set q (.own b' nn len))))::(b',some (.arr E esz n el))::(b,none)::st.heap⟩:=by
 intro a w hc
 obtain⟨⟨ρ,F,hfr,⟨ft,hi⟩,hs,dn⟩,hid,sz⟩:=hc
 have hρ:=hi.fresh b' hb'
 have hpb:p≠b:=fun e=>by rw [e,hb]at hp;cases hp
 have hpb':p≠b':=fun e=>by rw [e,hb']at hp;cases hp
 have hbb':b≠b':=fun e=>by rw [e,hb']at hb;cases hb
 obtain⟨pl,hpl⟩: ∃pl,ρ b=some pl:=by
  rcases hi.obj b _ hb with⟨h,_⟩|⟨k,base,cap,h,_⟩<;>exact⟨_,h⟩
 have hu: ∀x,dm ((p,some (.cells E0 (cs.set q (.own b' nn len))))::(b',some (.arr E esz n el))::(b,none)::st.heap) x=if p=x then some (some (.cells E0 (cs.set q (.own b' nn len))))else if b'=x then some (some (.arr E esz n el))else if b=x then some none else dm st.heap x:=fun x=>by simp only [dm];rw [aT,aT,aT]
 have g:Gr ρ F w (fw ρ b' pl) F w:=⟨dA hρ,fun _ h=>h,fun _ _=>rfl⟩
 have hlive: ∀x ox,(x=p∨x=b'∨x=b)→dm ((p,some (.cells E0 (cs.set q (.own b' nn len))))::(b',some (.arr E esz n el))::(b,none)::st.heap) x=some (some ox)→(x=p∧ox= .cells E0 (cs.set q (.own b' nn len)))∨(x=b'∧ox= .arr E esz n el):=fun x ox hx hh=>by
  rw [hu]at hh
  rcases hx with rfl|rfl|rfl
  ·rw [if_pos rfl]at hh;cases hh;exact .inl ⟨rfl,rfl⟩
  ·rw [if_neg hpb',if_pos rfl]at hh;cases hh;exact .inr ⟨rfl,rfl⟩
  ·rw [if_neg hpb,if_neg (Ne.symm hbb'),if_pos rfl]at hh;cases hh
 refine⟨⟨fw ρ b' pl,F,{hfr with rho:=fun x p' e=>dA hρ x p' (hfr.rho x p' e)},⟨CG ft b' (ft b), ?_⟩,fun t' tv ht'=> ?_,dn⟩,hid,sz⟩
 ·refine hi.step g hfr (Nat.le_refl _) (fun x=>x=p∨x=b'∨x=b) (fun x ox hx hh=> ?_) (fun x ox hx hh=> ?_) (fun x ox k hx hh hf=> ?_) (fun x y ox oy k hx hy h1 h2 f1 f2=> ?_) (fun k hk=> .inl hk) fun x hh=> ?_
  ·rw [hu,if_neg (fun e=>hx (.inl e.symm)),if_neg (fun e=>hx (.inr (.inl e.symm))),if_neg (fun e=>hx (.inr (.inr e.symm)))]at hh
   exact⟨hh,fun _ _=>rfl,fun k=>by rw [lZ (fun e=>hx (.inr (.inl e)))]⟩
  ·rcases hlive x ox hx hh with⟨rfl,rfl⟩|⟨rfl,rfl⟩
   ·rw [lZ hpb']
    obtain⟨k,cap,vs,x1,x0,x2,x3⟩:=hi.obj x _ hp
    refine⟨k,cap,vs,dA hρ _ _ x1,x0,x2,dD.rJ (by rw [x3.length,List.length_set]) fun j c hj=> ?_⟩
    rw [List.getElem?_set]at hj
    split at hj
    ·rename_i e;subst e
     split at hj
     ·cases hj
      obtain⟨u,hu',hr⟩:=x3.get hq
      refine⟨u,hu', ?_⟩
      rcases hr with⟨k,base,cap,e1,e2⟩|⟨e0,e1,e2,e3⟩
      ·rw [hpl]at e1;cases e1
       exact .inl ⟨k,base,cap,aV _ _,e2⟩
      ·rw [hpl]at e1;cases e1
       exact .inr ⟨e0,aV _ _,e2,e3⟩
     ·cases hj
    ·obtain⟨u,hu',hr⟩:=x3.get hj
     exact⟨u,hu',hr.gr g⟩
   ·rw [fC]
    rcases hi.obj b _ hb with⟨h,h0⟩|⟨k,base,cap,h,h1,h2⟩
    ·rw [hpl]at h;cases h;exact .inl ⟨aV _ _,h0⟩
    ·rw [hpl]at h;cases h;exact .inr ⟨k,base,cap,aV _ _,h1,h2⟩
  ·rcases hlive x ox hx hh with⟨rfl,rfl⟩|⟨rfl,rfl⟩
   ·rw [lZ hpb']at hf
    exact .inl ⟨x,_, .inl rfl,hp,hf⟩
   ·rw [fC]at hf
    exact .inl ⟨b,_, .inr (.inr rfl),hb,hf⟩
  ·rcases hlive x ox hx h1 with⟨rfl,rfl⟩|⟨rfl,rfl⟩<;>rcases hlive y oy hy h2 with⟨rfl,rfl⟩|⟨rfl,rfl⟩
   ·rfl
   ·rw [lZ hpb']at f1;rw [fC]at f2
    exact absurd (hi.dis _ _ _ _ k hp hb f1 f2) hpb
   ·rw [fC]at f1;rw [lZ hpb']at f2
    exact absurd (hi.dis _ _ _ _ k hb hp f1 f2).symm hpb
   ·rfl
  ·rw [hu]at hh
   split at hh
   ·cases hh
   ·split at hh
    ·cases hh
    ·split at hh
     ·cases hh
     ·rename_i e1 e2 e3
      have:=hi.fresh x hh
      simp only [fw];rw [if_neg (Ne.symm e2)];exact this
 ·obtain⟨v,hv,hr⟩:=hs t' tv ht'
  exact⟨v,hv,hr.gr g⟩
end
theorem Sv {E esz n:Nat} {f g:Nat→Nat→DV} (h: ∀i,i<n→ ∀j,j<esz→gX (f i j) (g i j)):Sz (some (.arr E esz n f)) (some (.arr E esz n g)):=by
 rintro ρ F w S b (hr|⟨k,base,cap,x1,x0,vs,x2,x3,x4,x5,x6⟩)
 ·exact .inl hr
 ·exact .inr ⟨k,base,cap,x1,x0,vs,x2,x3,x4,x5,fun i hi j hj=>by
   obtain⟨u,hu,hr⟩:=x6 i hi j hj
   exact⟨u,hu,h i hi j hj _ _ _ hr⟩⟩
theorem ZC {α:Type} [Inhabited α] (l:List α) (k i:Nat):at' (l.drop k) i=at' l (i+k):=by
 unfold at';rw [List.getD_eq_getElem?_getD,List.getD_eq_getElem?_getD,List.getElem?_drop,Nat.add_comm]
theorem ahc {α:Type} [Inhabited α] (c:α→Nat→DV) (n esz:Nat) (z:List DV) (x:α) (h: ∀j,j<esz→gX (z.getD j .nilp) (c x j)): ∀i,i<(List.replicate n x).length→ ∀j,j<esz→gX ((fun(_:Nat) j=>z.getD j .nilp) i j) (aN c (List.replicate n x) i j):=by
 intro i hi j hj
 show gX (z.getD j .nilp) _
 unfold aN
 rw [rU (by simpa using hi)]
 exact h j hj
theorem zJ {E esz n m:Nat} {f:Nat→Nat→EV} {ov:Option (Nat × Nat × CV)} (h:n=m):Sz (some (.rows E esz n f ov)) (some (.rows E esz m f ov)):=h ▸ .refl _
theorem toNat_lt {i:Int} {n:Nat} (h:(0:Int)≤i∧i<(n:Int)):i.toNat<n:=by omega
def aiX (l:List (Nat × Option Ob)):CV→Bool
 | .d x=>SL x
 | .own b _ _=>(get l b).isSome
 |_=>false
def aeu (l:List (Nat × Option Ob)):Ob→Prop
 | .cells _ cs=>cs.all (aiX l)=true
 | .arr _ _ _ el=> ∀i j,SL (el i j)=true
 |_=>False
def TM (l:List (Nat × Option Ob)):List (Nat × Option Ob)→Prop
 |[]=>True
 |(_,none)::r=>TM l r
 |(_,some o)::r=>aeu l o∧TM l r
section
variable {ρ ρ':Nat→Option Pl} {F F':Nat→Prop} {w w':World} {l:List (Nat × Option Ob)}
theorem TM.get: ∀{m:List (Nat × Option Ob)},TM l m→ ∀{b:Nat} {o:Ob},Sg.get m b=some (some o)→aeu l o
 |[],_,b,o,h=>by cases h
 |(b0,x)::m,hm,b,o,h=>by
  rw [aT]at h
  split at h
  ·cases h;exact hm.1
  ·cases x with
   |none=>exact TM.get (m:=m) hm h
   |some _=>exact TM.get hm.2 h
end
abbrev nS:DV:= .sl (some false) 0 0 fun _ _=> .nilp
structure RI where
 yb:List (Nat × Bool):=[]
 an:List (Nat × Bp):=[]
 fr:List (Nat × Nat):=[]
def Xf {α:Type} (l:List (Nat × α)):List Nat:=l.map (·.1)
def ab4 (frz:List Nat) (s:St):Fin:=⟨frz,s.heap.map fun p=>(p.1,p.1)⟩
def RI.on (x:RI) (frz:List Nat) (s:St):FQ:={yb:=jq x.yb,an:=anf x.an,fr:=frf x.fr,fin:=ab4 frz s,ts:=Xf s.slots}
def agT (a l:List Nat):List Nat:=l.foldl (fun acc x=>bif lH x acc then acc else x::acc) a
def agV:List Oper→Nat→List (Nat × List Nat)→List (Nat × List Nat)
 |[],_,acc=>acc
 |o::os,i,acc=>agV os (i+1) ((i,o.after.toList.foldl (fun x e=>bif Region.binds .any e then agT (agT x [e.on]) (match get acc e.on with|some l=>l|none=>[])else x) [])::acc)
def clO (ops:Array Oper):List (Nat × List Nat):=agV ops.toList 0 []
section
variable {rd:Option Nat} {P:Program} {B:Base} {N:Nat} {L:List Nat} {T:List (Nat × TI)} {Q:Exit→St→Prop} {st st':St} {id:Nat} {ops:Array Oper} {y:Code}
theorem rz (hT:rT P T) (s:St) (x:RI) (frz:List Nat) (hQ:Q .normal s) (he:M4 (Ma P) T ops N L (x.on frz s) st=some ([],s):=by kernel_rfl):bW rd P B N L (.region id ops false) Q st:=
 Db hT s _ he trivial .refl hQ
theorem rg (hT:rT P T) (s:St) (cs:List Prop) (x:RI) (frz:List Nat) (hc:All cs) (hQ:Q .normal s) (he:M4 (Ma P) T ops N L (x.on frz s) st=some (cs,s):=by kernel_rfl):bW rd P B N L (.region id ops false) Q st:=
 Db hT s _ he hc .refl hQ
theorem ri (hT:rT P T) (s:St) (cs:List Prop) (x:RI) (frz:List Nat) (hc:All cs) (hi:bZ B N L s st') (hQ:Q .normal st') (he:M4 (Ma P) T ops N L (x.on frz s) st=some (cs,s):=by kernel_rfl):bW rd P B N L (.region id ops false) Q st:=
 Db hT s _ he hc hi hQ
theorem sz (hT:rT P T) (s:St) (x:RI) (frz:List Nat) (hQ:bW rd P B N L y Q s) (he:M4 (Ma P) T ops N L (x.on frz s) st=some ([],s):=by kernel_rfl):bW rd P B N L (.seq (.region id ops false) y) Q st:=
 AL (Db hT s _ he trivial .refl hQ)
theorem sg (hT:rT P T) (s:St) (cs:List Prop) (x:RI) (frz:List Nat) (hc:All cs) (hQ:bW rd P B N L y Q s) (he:M4 (Ma P) T ops N L (x.on frz s) st=some (cs,s):=by kernel_rfl):bW rd P B N L (.seq (.region id ops false) y) Q st:=
 AL (Db hT s _ he hc .refl hQ)
theorem si (hT:rT P T) (s:St) (cs:List Prop) (x:RI) (frz:List Nat) (hc:All cs) (hi:bZ B N L s st') (hQ:bW rd P B N L y Q st') (he:M4 (Ma P) T ops N L (x.on frz s) st=some (cs,s):=by kernel_rfl):bW rd P B N L (.seq (.region id ops false) y) Q st:=
 AL (Db hT s _ he hc hi hQ)
theorem dg (hT:rT P T) (hm:P.follows .mixedOrders=true) (s:St) (cs:List Prop) (x:RI) (frz:List Nat) (hc:All cs) (hQ:Q .normal s) (he:Ru (Ma P) T ops N L (x.on frz s) (clO ops) st=some (cs,s):=by kernel_rfl):bW rd P B N L (.region id ops true) Q st:=
 FJ hT hm s _ _ he hc .refl hQ
theorem di (hT:rT P T) (hm:P.follows .mixedOrders=true) (s:St) (cs:List Prop) (x:RI) (frz:List Nat) (hc:All cs) (hi:bZ B N L s st') (hQ:Q .normal st') (he:Ru (Ma P) T ops N L (x.on frz s) (clO ops) st=some (cs,s):=by kernel_rfl):bW rd P B N L (.region id ops true) Q st:=
 FJ hT hm s _ _ he hc hi hQ
theorem sd (hT:rT P T) (hm:P.follows .mixedOrders=true) (s:St) (cs:List Prop) (x:RI) (frz:List Nat) (hc:All cs) (hQ:bW rd P B N L y Q s) (he:Ru (Ma P) T ops N L (x.on frz s) (clO ops) st=some (cs,s):=by kernel_rfl):bW rd P B N L (.seq (.region id ops true) y) Q st:=
 AL (FJ hT hm s _ _ he hc .refl hQ)
theorem sj (hT:rT P T) (hm:P.follows .mixedOrders=true) (s:St) (cs:List Prop) (x:RI) (frz:List Nat) (hc:All cs) (hi:bZ B N L s st') (hQ:bW rd P B N L y Q st') (he:Ru (Ma P) T ops N L (x.on frz s) (clO ops) st=some (cs,s):=by kernel_rfl):bW rd P B N L (.seq (.region id ops true) y) Q st:=
 AL (FJ hT hm s _ _ he hc hi hQ)
theorem fi (s:St) (cs:List Prop) (frz:List Nat) (hc:All cs) (he:finish L (ab4 frz s) (Xf s.slots) [] (Nl st)=some (cs,s):=by kernel_rfl):bZ B N L st s:=bZ.fin _ _ he hc
theorem fz (s:St) (frz:List Nat) (he:finish L (ab4 frz s) (Xf s.slots) [] (Nl st)=some ([],s):=by kernel_rfl):bZ B N L st s:=bZ.fin _ _ he trivial
def XF {α:Type} (t:Nat) (v:α):List (Nat × α)→List (Nat × α)
 |[]=>[]
 |(k,x)::l=>bif Nat.beq k t then(k,v)::l else(k,x)::XF t v l
theorem MG {α:Type} {t:Nat} {v:α}: ∀{l:List (Nat × α)} {n:Nat} {x:α},get (XF t v l) n=some x→(n=t∧x=v∧(get l t).isSome)∨get l n=some x
 |[],n,x,h=>by simp [XF,get]at h
 |(k,y)::l,n,x,h=>by
  unfold XF at h
  cases e:Nat.beq k t with
  |true=>
   have:=Nat.eq_of_beq_eq_true e
   subst this
   simp only [e,cond_true,aT]at h
   split at h
   ·rename_i hk;cases h;left;exact⟨hk.symm,rfl,by simp [aT]⟩
   ·rename_i hk;right;rw [aT,if_neg hk];exact h
  |false=>
   simp only [e,cond_false,aT]at h
   have hkt:k≠t:=fun q=>by subst q;simp at e
   split at h
   ·rename_i hk;right;rw [aT,if_pos hk];exact h
   ·rename_i hk
    rcases MG h with⟨h1,h2,h3⟩|h1
    ·left;exact⟨h1,h2,by rw [aT,if_neg hkt];exact h3⟩
    ·right;rw [aT,if_neg hk];exact h1
theorem us (t:Nat) (y:TV) {x:TV} (he:get st.slots t=some x) (h:dY x y):bZ B N L st ⟨XF t y st.slots,st.heap⟩:=by
 intro a w hc
 obtain⟨⟨ρ,F,hfr,hhi,hs,dn⟩,hid,sz⟩:=hc
 refine⟨⟨ρ,F,hfr,hhi,fun t' tv ht=> ?_,dn⟩,hid,sz⟩
 rcases MG ht with⟨rfl,rfl,_⟩|h1
 ·obtain⟨v,hv,hr⟩:=hs _ _ he
  exact⟨v,hv,h _ _ _ _ hr⟩
 ·exact hs _ _ h1
theorem ct {c:Operand} {x:Code} {b:Bool} (hb:b=true) (h:bW rd P B N L x Q st) (he:Ky st c=some (.v (.one (.d (.bool b)))):=by kernel_rfl):bW rd P B N L (.cond c x y) Q st:=
 GU b he (fun _=>h) fun hn=>absurd (hb.symm.trans hn) Bool.noConfusion
theorem cf {c:Operand} {x:Code} {b:Bool} (hb:b=false) (h:bW rd P B N L y Q st) (he:Ky st c=some (.v (.one (.d (.bool b)))):=by kernel_rfl):bW rd P B N L (.cond c x y) Q st:=
 GU b he (fun hn=>absurd (hb.symm.trans hn) Bool.noConfusion) fun _=>h
theorem ck {c:Operand} {x:Code} (h:bW rd P B N L x Q st) (he:Ky st c=some (.v (.one (.d (.bool true)))):=by kernel_rfl):bW rd P B N L (.cond c x y) Q st:=
 GU true he (fun _=>h) fun hn=>Bool.noConfusion hn
theorem cn {c:Operand} {x:Code} (h:bW rd P B N L y Q st) (he:Ky st c=some (.v (.one (.d (.bool false)))):=by kernel_rfl):bW rd P B N L (.cond c x y) Q st:=
 GU false he (fun hn=>Bool.noConfusion hn) fun _=>h
theorem rh {rs:List ResultVar} {res:TV} {hout:List (Nat × Option Ob)} (l:List SV) (h3:dY (V6 l) res) (h4:rY st.heap hout) (h1:Ot T st rs=some ([],l):=by kernel_rfl):bR T rs res hout .ret st:=⟨.inr rfl,⟨[],l,h1,trivial,h3⟩,h4⟩
theorem oi {α:Type} {a b:α} (h:some a=some b):a=b:=Option.some.inj h
def eqs {α:Type} (x:α):Nat→List Prop→List Prop
 |0,l=>l
 |n+1,l=>(x=x)::eqs x n l
theorem ae {α:Type} {x:α} {n:Nat} {l:List Prop} (h:All l):All (eqs x n l):=by
 induction n with
 |zero=>exact h
 |succ n ih=>exact⟨rfl,ih⟩
theorem rk {f:FuncId} {args:List SV} {hin hout:List (Nat × Option Ob)} {res:TV} (l:List (Nat × Nat)) (h:Fn P f args hin res hout):Fn P f (args.map (SV.ren (swp l))) (Aq (swp l) hin) (res.ren (swp l)) (Aq (swp l) hout):=
 Fn.Yp l h rfl rfl rfl rfl
def cA {f:FuncId} {args:List SV} {hin hout:List (Nat × Option Ob)} {res:TV} (_:Fn P f args hin res hout) (ids:List Nat):Bp:= .call ids res hout
def cR {f:FuncId} {args:List SV} {hin hout:List (Nat × Option Ob)} {res:TV} (_:Fn P f args hin res hout) (ids:List Nat):Bp:= .callR ids res
theorem CJ {α:Type} {c:Bool} {x y:α} (h:c=true):(bif c then x else y)=x:=by rw [h];rfl
theorem Ct {α:Type} {c:Bool} {x y:α} (h:c=false):(bif c then x else y)=y:=by rw [h];rfl
end
theorem tR {l:List (Nat × TV)} {t:Nat} {x:TV} (h:get l t=some x:=by rfl): ∃y,get l t=some y∧dY y x:=⟨x,h,dY.refl x⟩
theorem cW {b:Nat} {nn:Bool} {n m:Nat} (h:n=m:=by simp only [List.length_set,List.length_append,List.length_cons,List.length_nil,List.length_replicate,List.length_drop]):eD (.own b nn n) (.own b nn m):=eD.of (congrArg (CV.own _ _) h)
theorem oW {E esz n m:Nat} {f:Nat→Nat→DV} (h:n=m:=by simp only [List.length_set,List.length_append,List.length_cons,List.length_nil,List.length_replicate,List.length_drop]):Sz (some (.arr E esz n f)) (some (.arr E esz m f)):=XL h
def aQ:= @AL
def aP:= @Xi
def aR:= @YB
def aX:= @Vz
def aI:= @ZB
def aB:= @RV
def aL:= @Lu
def aO:= @WU
def bE:= @TU
def bI:= @WJ
theorem lN {σ β X:Type} {b:Nat} {av:List Nat} {S:σ→St} {Sb:β→St} {Qo:X→Exit→St→Prop} {s:σ} {st:St} (h:st=S s:=by kernel_rfl):LQ b av S Sb Qo (.next s) .normal st:=SH h
theorem lB {σ β X:Type} {b:Nat} {av:List Nat} {S:σ→St} {Sb:β→St} {Qo:X→Exit→St→Prop} {z:β} {st:St} (h:st=Sb z:=by kernel_rfl):LQ b av S Sb Qo (.done (.brk z)) (.exit b) st:=abC h
theorem rK {P:Program} {f:FuncId} {args args':List SV} {hin hin' hout hout':List (Nat × Option Ob)} {res res':TV} (l:List (Nat × Nat)) (h:Fn P f args hin res hout)
 (e1:args.map (SV.ren (swp l))=args':=by kernel_rfl) (e2:Aq (swp l) hin=hin':=by kernel_rfl) (e3:res.ren (swp l)=res':=by kernel_rfl) (e4:Aq (swp l) hout=hout':=by kernel_rfl):Fn P f args' hin' res' hout':=Fn.Yp l h e1 e2 e3 e4
theorem yK {P:Program} {b b':Nat} {args args':List SV} {hin hin' hout hout':List (Nat × Option Ob)} {res res':TV} (l:List (Nat × Nat)) (h:Yl P b args hin res hout)
 (e0:swp l b=b':=by kernel_rfl) (e1:args.map (SV.ren (swp l))=args':=by kernel_rfl) (e2:Aq (swp l) hin=hin':=by kernel_rfl) (e3:res.ren (swp l)=res':=by kernel_rfl) (e4:Aq (swp l) hout=hout':=by kernel_rfl):Yl P b' args' hin' res' hout':=Yl.Yp l h e0 e1 e2 e3 e4
theorem rl {T:List (Nat × TI)} {rs:List ResultVar} {res:TV} {hout:List (Nat × Option Ob)} {st:St} (l:List SV) (h1:Ot T st rs=some ([],l):=by kernel_rfl) (h2:V6 l=res:=by kernel_rfl) (h3:st.heap=hout:=by kernel_rfl):bR T rs res hout .ret st:=
 ⟨.inr rfl,⟨[],l,h1,trivial,h2 ▸ dY.refl _⟩,h3 ▸ rY.refl _⟩
theorem hNl: ∀(n:Nat) {l l':List (Nat × Option Ob)},rY (l.drop n) (l'.drop n)→l.take n=l'.take n→rY l l'
 |0,_,_,h,_=>h
 |n+1,[],[],_,_=>trivial
 |n+1,[],_::_,_,e=>by cases e
 |n+1,_::_,[],_,e=>by cases e
 |n+1,(a,x)::l,(b,y)::l',h,e=>by
  simp only [List.take_succ_cons,List.cons.injEq,Prod.mk.injEq]at e
  obtain⟨⟨rfl,rfl⟩,e⟩:=e
  exact⟨rfl,Sz.refl _,hNl n h e⟩
theorem hN (n:Nat) {l l':List (Nat × Option Ob)} (h:rY (l.drop n) (l'.drop n)) (e:l.take n=l'.take n:=by kernel_rfl):rY l l':=hNl n h e
def lR:= @acz
def fN:= @Vi
def tL:= @toNat_lt
end Sg

namespace Sg
open Go Go.ChangeShapes Go.WideShapes Go.RowKit Go.Deep
def Lg (w:World) (k:Nat):Prop:=k<w.heap.size
theorem YG {w:World} {k off:Nat} {u:Value} (h:w.cell? ⟨k,off,none⟩=some u):k<w.heap.size:=by
 unfold World.cell? at h
 cases e:w.heap[k]? with
 |none=>simp [e]at h
 |some o=>exact(Array.getElem?_eq_some_iff.mp e).1
theorem cell_spot {w:World} {a:Addr} {u:Value} (h:w.cell? a=some u):a.spot=none:=by
 unfold World.cell? at h
 cases e:a.spot with
 |none=>rfl
 |some s=>
  split at h
  ·simp [e]at h
  ·cases h
structure Rd (P:Program) (t:TypeId) (n:Nat) {α:Type} (c:α→Nat→DV) (S:α→Prop):Prop where
 size:P.cellsOf t=n
 rd: ∀{H:Type} {enc:TypeId × Value→H} {w:World} {fuel:Nat} {cs:List Value} {x:DataW H × List MemPlace},DataW.trod enc P w 0 (fun _=>true) true fuel t cs=some x→
  ∃a:α,S a∧cs.length=n∧ ∀j,j<n→ ∃u,cs[j]? =some u∧eB (Lg w) w (c a j) u
section
variable {P:Program} {t e:TypeId}
theorem Rd.int (ht:P.underlying t=some (.int .i64)) (hs:P.cellsOf t=1):Rd P t 1 (aC .i64) (fun n=> -9223372036854775808≤n∧n≤9223372036854775807):=by
 refine⟨hs,fun h=> ?_⟩
 obtain⟨n,rfl,_,hw⟩:=DataW.trod_int ht h
 refine⟨n,by simpa [Lit.wf,IntKind.min,IntKind.max,IntKind.signed,IntKind.bits]using hw,rfl,fun j hj=> ?_⟩
 have:j=0:=by omega
 subst this;exact⟨_,rfl,rfl⟩
theorem Rd.bool (ht:P.underlying t=some .bool) (hs:P.cellsOf t=1):Rd P t 1 aD (fun _=>True):=by
 refine⟨hs,fun h=> ?_⟩
 obtain⟨b,rfl,_⟩:=DataW.trod_bool ht h
 refine⟨b,trivial,rfl,fun j hj=> ?_⟩
 have:j=0:=by omega
 subst this;exact⟨_,rfl,rfl⟩
open Classical in
theorem Rd.slice {n:Nat} {α:Type} [Inhabited α] {c:α→Nat→DV} {S:α→Prop} (ht:P.underlying t=some (.slice e)) (hs:P.cellsOf t=1) (hn:0<n) (he:Rd P e n c S):Rd P t 1 (Na n c) (fun l=>l.length≤9223372036854775807∧ ∀x∈l,S x):=by
 refine⟨hs,fun{H enc w fuel cs x} h=> ?_⟩
 rcases open_slice ht h with⟨rfl,_⟩|⟨a,len,cap,m,fu,D,Pl,rfl,hb,hl,hm,hmm,_,hx⟩
 ·refine⟨[],⟨by simp,by simp⟩,rfl,fun j hj=> ?_⟩
  have:j=0:=by omega
  subst this
  exact⟨_,rfl,none,0,rfl,by simp,by simp,by simp,Nat.le_refl _,by simp⟩
 ·simp only [if_true]at hmm
  subst hmm
  have hel: ∀i,i<m→ ∃y:α,S y∧ ∀j,j<n→a.spot=none∧ ∃u,w.cell? ⟨a.block,a.off+(i*n+j),none⟩=some u∧eB (Lg w) w (c y j) u:=by
   intro i hi
   obtain⟨cs',h1,h2⟩:=hx i hi
   rw [he.size]at h1
   obtain⟨y,hy,hlen,hc⟩:=he.rd h2
   obtain⟨_,hcl,hat⟩:=World.cells?_some h1
   obtain⟨cs0,h10,h20⟩:=hx 0 (by omega)
   rw [he.size]at h10
   obtain⟨y0,_,hlen0,hc0⟩:=he.rd h20
   obtain⟨_,_,hat0⟩:=World.cells?_some h10
   obtain⟨u0,hu0,_⟩:=hc0 0 hn
   have hsp:a.spot=none:=by
    have:=(hat0 0 hn).trans hu0
    simp only [Nat.zero_mul]at this
    have h3:=cell_spot this
    simpa [Addr.add]using h3
   refine⟨y,hy,fun j hj=> ⟨hsp, ?_⟩⟩
   obtain⟨u,hu,hr⟩:=hc j hj
   refine⟨u, ?_,hr⟩
   have:=(hat j hj).trans hu
   rw [zQ hsp,zQ rfl]at this
   rw [←this];simp only [Nat.add_assoc]
  let pick:Nat→α:=fun i=>if h:i<m then Classical.choose (hel i h)else default
  have hpick: ∀i,i<m→S (pick i)∧ ∀j,j<n→a.spot=none∧ ∃u,w.cell? ⟨a.block,a.off+(i*n+j),none⟩=some u∧eB (Lg w) w (c (pick i) j) u:=by
   intro i hi
   show S (dite _ _ _)∧_
   simp only [pick,dif_pos hi]
   exact Classical.choose_spec (hel i hi)
  let l:List α:=(List.range len).map pick
  have hll:l.length=len:=by simp [l]
  have hat: ∀i,i<len→at' l i=pick i:=fun i hi=>by simp [at',l,hi]
  refine⟨l,⟨by rw [hll];exact Nat.le_trans (Nat.le_trans hl hm) (by decide),fun x hx=> ?_⟩,rfl,fun j hj=> ?_⟩
  ·obtain⟨i,hi,rfl⟩:=List.mem_map.mp hx
   exact(hpick i (Nat.lt_of_lt_of_le (List.mem_range.mp hi) hl)).1
  ·have:j=0:=by omega
   subst this
   refine⟨_,rfl,some a,m, ?_,by simp,by simp,by simp,by rw [hll];exact hl,fun ad ha=> ?_⟩
   ·simp [hll]
   ·cases ha
    refine⟨fun h0=> ?_,fun i hi j hj=> ?_⟩
    ·exact((hpick 0 (by omega)).2 0 hn).1
    ·rw [hll]at hi
     obtain⟨_,u,hu,hr⟩:=(hpick i (by omega)).2 j hj
     exact⟨YG hu,u,hu,by show eB _ _ (c (at' l i) j) u;rw [hat i hi];exact hr⟩
theorem Qd {n off:Nat} {α:Type} {c:α→Nat→DV} {w:World} {cs:List Value} {a:α} (h: ∀j,j<n→ ∃u,((cs.drop off).take n)[j]? =some u∧eB (Lg w) w (c a j) u):
  ∀j,j<n→ ∃u,cs[off+j]? =some u∧eB (Lg w) w (c a j) u:=by
 intro j hj
 obtain⟨u,hu,hr⟩:=h j hj
 rw [List.getElem?_take_of_lt hj,List.getElem?_drop]at hu
 exact⟨u,hu,hr⟩
theorem Rd.fields {fs:Array Field} {n:Nat} (ht:P.underlying t=some (.struct fs)) (hs:P.cellsOf t=n) {H:Type} {enc:TypeId × Value→H} {w:World} {fuel:Nat} {cs:List Value} {x:DataW H × List MemPlace}
  (h:DataW.trod enc P w 0 (fun _=>true) true fuel t cs=some x):cs.length=n∧ ∀(i:Nat) (f:Field),fs[i]? =some f→ ∃y,DataW.trod enc P w 0 (fun _=>true) true (fuel - 1) f.type ((cs.drop f.offset).take (P.cellsOf f.type))=some y:=by
 obtain⟨xs,m,rfl,_,hl,hxl,hf⟩:=DataW.trod_struct ht h
 refine⟨by rw [hl,hs],fun i f hi=> ?_⟩
 have hlt:=(Array.getElem?_eq_some_iff.mp hi).1
 have:=hf i f hi
 rw [List.getElem?_eq_getElem (by omega)]at this
 exact⟨_,this⟩
theorem Rd.field {n off:Nat} {α:Type} {c:α→Nat→DV} {S:α→Prop} (he:Rd P e n c S) {H:Type} {enc:TypeId × Value→H} {w:World} {fuel:Nat} {cs:List Value}
  (h: ∃y,DataW.trod enc P w 0 (fun _=>true) true fuel e ((cs.drop off).take (P.cellsOf e))=some y): ∃a:α,S a∧ ∀j,j<n→ ∃u,cs[off+j]? =some u∧eB (Lg w) w (c a j) u:=by
 obtain⟨y,hy⟩:=h
 rw [he.size]at hy
 obtain⟨a,ha,hl,hc⟩:=he.rd hy
 exact⟨a,ha,Qd hc⟩
theorem Rd.elems {m n:Nat} (ht:P.underlying t=some (.array m e)) (hs:P.cellsOf t=n) {H:Type} {enc:TypeId × Value→H} {w:World} {fuel:Nat} {cs:List Value} {x:DataW H × List MemPlace}
  (h:DataW.trod enc P w 0 (fun _=>true) true fuel t cs=some x):cs.length=n∧ ∀(i:Nat),i<m→ ∃y,DataW.trod enc P w 0 (fun _=>true) true (fuel - 1) e ((cs.drop (i*P.cellsOf e)).take (P.cellsOf e))=some y:=by
 obtain⟨xs,q,rfl,_,hl,hxl,hf⟩:=DataW.trod_array ht h
 refine⟨by rw [hl,hs],fun i hi=> ?_⟩
 have:=hf i hi
 rw [List.getElem?_eq_getElem (by omega)]at this
 exact⟨_,this⟩
end
section
variable {P:Program} {t:TypeId}
theorem Rd.agg {n:Nat} {α:Type} {c:α→Nat→DV} {S:α→Prop} (hr:Rd P t n c S) {fs:Array Field} (ht:P.underlying t=some (.struct fs)) {W:World} {b0:Nat} {v:Value} (hv:Value.okWide P W .any b0 t v)
  {H:Type} {enc:TypeId × Value→H} {d:DataW H} {ps:List MemPlace} (h:DataW.Trod enc P W 0 (fun _=>true) true t v d ps):
  ∃a:α,S a∧iX (fun _=>none) (Lg W) W (.agg ((List.range n).map fun j=> .d (c a j))) v:=by
 obtain⟨cs,rfl,hsz⟩:=okWide_struct ht hv
 obtain⟨fuel,hf⟩:=h
 obtain⟨a,ha,hl,hc⟩:=hr.rd hf
 refine⟨a,ha,cs.toList,by simp,dD.rJ (by rw [List.length_map,List.length_range];exact hl) fun j x hx=> ?_⟩
 have hj:j<n:=by
  have:=(List.getElem?_eq_some_iff.mp hx).1
  simpa using this
 obtain⟨u,hu,hru⟩:=hc j hj
 refine⟨u,hu, ?_⟩
 simp [hj]at hx
 subst hx
 exact hru
theorem Rd.one {α:Type} {c:α→Nat→DV} {S:α→Prop} (hr:Rd P t 1 c S) {W:World} {v:Value} (hv:v.cells.toList=[v])
  {H:Type} {enc:TypeId × Value→H} {d:DataW H} {ps:List MemPlace} (h:DataW.Trod enc P W 0 (fun _=>true) true t v d ps): ∃a:α,S a∧iX (fun _=>none) (Lg W) W (.one (.d (c a 0))) v:=by
 obtain⟨fuel,hf⟩:=h
 rw [hv]at hf
 obtain⟨a,ha,hl,hc⟩:=hr.rd hf
 obtain⟨u,hu,hru⟩:=hc 0 (by omega)
 simp at hu;subst hu
 exact⟨a,ha,hru⟩
theorem Y9 {k:IntKind} (ht:P.underlying t=some (.int k)) {W:World} {b0:Nat} {v:Value} (hv:Value.okWide P W .any b0 t v):v.cells.toList=[v]:=by
 obtain⟨n,rfl⟩:=okWide_int ht hv;rfl
theorem Te {f:FuncId} {args:List SV} {W:World} {vs:List Value} (h:Fn P f args [] (vB true) []) (hr:gD (fun _=>none) (Lg W) W args vs):
  Calls P f vs.toArray W fun e W'=>e= .returned (.bool true)∧Below W.heap.size W W':=by
 refine(h.2 ⟨W,fun _=>none,Lg W,(fun _=>False),0⟩ vs (fun _ h=>h) ⟨fun _ _=>False, ?_⟩ hr).mono fun e W' hh=> ?_
 ·exact⟨fun b ob h=>(by cases h),fun b ob k h=>(by cases h),fun b b' ob ob' k h=>(by cases h),fun _ _=>rfl⟩
 ·obtain⟨v,ρ',F',he,fr,_,hv⟩:=hh
  have hv':v= .bool true:=hv
  subst hv'
  exact⟨he,fr.os,fr.tape,fr.output,fr.size,fun k hk=>fr.mem k hk fun q=>q⟩
theorem Ej {H:Type} {enc:TypeId × Value→H} (hl:laidOutB P=true) {W W':World} (hb:Below W.heap.size W W') {sp:Nat→Bool}: ∀{ts:List TypeId} {vs:List Value} {ds:List (DataW H)} {ps:List MemPlace},
  DataW.TrodAll enc P W 0 (fun _=>true) true ts vs ds ps→(∀t∈ts,P.readableRec t=true∧t<P.types.size)→(∀q∈ps,q.block<W.heap.size)→(∀q∈ps,sp q.block=true)→DataW.TrodAll enc P W' 0 sp true ts vs ds ps
 |[],vs,ds,ps,h,_,_,_=>by
  obtain⟨rfl,rfl,rfl⟩:=trodAll_nil h;rfl
 |t::ts,vs,ds,ps,h,hr,hlt,hsp=>by
  obtain⟨v,vs',d,ds',p,q,rfl,rfl,rfl,h0,h1⟩:=trodAll_cons h
  have ht:=hr t List.mem_cons_self
  exact trodAll_cons_mk (WideElems.Trod_stays hl ht.1 ht.2 h0 (fun x hx=>hb.same (hlt x (List.mem_append_left _ hx))) (fun x hx=>hsp x (List.mem_append_left _ hx)))
   (Ej hl hb h1 (fun t ht=>hr t (List.mem_cons_of_mem _ ht)) (fun x hx=>hlt x (List.mem_append_right _ hx)) (fun x hx=>hsp x (List.mem_append_right _ hx)))
theorem WB {H:Type} {enc:TypeId × Value→H} {f:Func} {s:ChangeSpec} {W W':World} {args:Array Value} {ds gs:List (DataW H)} {before:List MemPlace} {t4:TypeId} (hs:s.vars=[])
  (hW:DataW.Whole enc P f.params.toList s.vars false W args.toList ds gs before) (h1:(s.fn H (ds++gs)).results=[.lit (.bool true)]) (h2:(s.fn H (ds++gs)).args=ds) (h3:(s.fn H (ds++gs)).vars=[])
  (hr:f.resultTypes= #[t4]) (h4:P.underlying t4=some .bool) (hl:laidOutB P=true) (hread: ∀t∈f.params.toList,P.readableRec t=true∧t<P.types.size) (hb:Below W.heap.size W W'):
  s.post enc P f false true false false W args (.bool true) W':=by
 have hlt:=hW.lt
 have hW':=hW
 obtain⟨p,q,hA,hV,rfl,_,_⟩:=hW
 rw [hs]at hV
 obtain⟨_,rfl⟩:=trodVars_none hV
 rw [List.append_nil]at hW' hlt
 refine⟨ds,gs,p,[],p,[],hW', ?_, ?_, ?_,hb.frame _,fun h=>by cases h⟩
 ·rw [h1,hr]
  exact trodAll_cons_mk (p:=[]) (p':=[]) (shut_bool h4 true) trodAll_mk0
 ·rw [h2]
  exact Ej hl hb hA hread (fun x hx=>hlt x hx) (fun x hx=>by simpa using hlt x hx)
 ·rw [hs,h3];rfl
end
end Sg

namespace Sg
open Go Go.ChangeMaps
section
variable {P:Program} {B:Base} {N:Nat} {L:List Nat} {st:St} {rd:Option Nat}
theorem vg {ops:Array Oper} {Q:Exit→Act→World→Prop} {i:Nat} {o:Oper} {a:Act} {w w':World} {v:Value} {K:Act→World→Prop} (ho:ops[i]? =some o) (hg:o.guard=none) (hrun:(execOp a.eval o).run P w= .ok (.value v) w') (hK:K (a.put o.dst v) w'):wpOpIn (FW rd) 0 P ops Q i K a w:=by
 unfold wpOpIn
 rw [ho]
 simp only [Region.wanted,hg,if_true]
 refine xC rd (nL hrun (fun _ h=>by cases h)) ?_
 simp only [Oper.wp,hrun,Oper.upon]
 exact hK
theorem Hl {ρ:Nat→Option Pl} {F:Nat→Prop} {w:World} {sl:List (Nat × TV)} {a:Act} {d:Nat} {tv:TV} {v:Value} (hs: ∀t tv,get sl t=some tv→ ∃v,a.tmps[t]? =some v∧dG ρ F w tv v) (hd:d<a.tmps.size) (hr:dG ρ F w tv v):
  ∀t tv',get ((d,tv)::sl) t=some tv'→ ∃v',(a.put (some d) v).tmps[t]? =some v'∧dG ρ F w tv' v':=by
 intro t tv' ht
 rw [aT]at ht
 split at ht
 ·rename_i e;subst e;cases ht
  exact⟨v,by simp [Act.put,hd],hr⟩
 ·rename_i e
  obtain⟨u,hu,hr'⟩:=hs t tv' ht
  exact⟨u,by simp only [Act.put];rw [Array.getElem?_setIfInBounds_ne e];exact hu,hr'⟩
theorem eval_put_ne {a:Act} {d t:Nat} {v:Value} (h:t≠d):(a.put (some d) v).eval (.tmp t)=a.eval (.tmp t):=by
 simp only [Act.eval,Act.put,Array.getD_eq_getD_getElem?]
 rw [Array.getElem?_setIfInBounds_ne (Ne.symm h)]
theorem IA {a:Act} {d:Nat} {v:Value} (h:d<a.tmps.size):(a.put (some d) v).eval (.tmp d)=v:=by simp [Act.eval,Act.put,h]
structure It (B:Base) (N:Nat) (L:List Nat) (st:St) (it kit km:Nat) (es:Array MapEntry) (seen:Array Nat) (a:Act) (w:World):Prop where
 ex: ∃ρ F ft,Fr B ρ F w∧zw B ρ F w (dm st.heap) ft∧(∀t tv,get st.slots t=some tv→ ∃v,a.tmps[t]? =some v∧dG ρ F w tv v)∧Marks B F w a.defers∧ρ it=some (.blk kit 0 0)∧
  ∀k,k=kit∨k=km→ ¬ F k∧ ∀b ob,dm st.heap b=some (some ob)→ ¬ ft b k
 ids: ∀b p,B.ρ b=some p→b∈L
 sz:a.tmps.size=N
 bit:B.w.heap.size≤kit
 itx:w.heap[kit]? =some (.mapIter (some km) es.size seen es.size)
 mpx:w.heap[km]? =some (.map es es.size)
theorem lt_of_heap {w:World} {k:Nat} {o:Obj} (h:w.heap[k]? =some o):k<w.heap.size:=(Array.getElem?_eq_some_iff.1 h).1
theorem It.acW {it kit km:Nat} {es:Array MapEntry} {seen:Array Nat} {a:Act} {w:World} (h:It B N L st it kit km es seen a w):Conc B N L st a w:=by
 obtain⟨⟨ρ,F,ft,h1,h2,h3,h4,_⟩,h5,h6,_,_,_⟩:=h
 exact⟨⟨ρ,F,h1,⟨ft,h2⟩,h3,h4⟩,h5,h6⟩
theorem It.base {it kit km:Nat} {es:Array MapEntry} {seen:Array Nat} {a:Act} {w:World} (h:It B N L st it kit km es seen a w):
  ∃B',Conc B' N (it::L) st a w∧ ∀st' a' w',Conc B' N (it::L) st' a' w'→It B N L st' it kit km es seen a' w':=by
 obtain⟨⟨ρ,F,ft,fr,hi,hs,dn,hit,hK⟩,ids,sz,bit,itx,mpx⟩:=h
 have lk: ∀k,k=kit∨k=km→k<w.heap.size:=fun k hk=>hk.elim (fun e=>e ▸ lt_of_heap itx) (fun e=>e ▸ lt_of_heap mpx)
 let B':Base:=⟨w,(fun x=>if x=it then some (.blk kit 0 0)else B.ρ x),F,(fun k=> ∃b ob,dm st.heap b=some (some ob)∧ft b k),B.mb⟩
 have nK: ∀k,k=kit∨k=km→ ¬ B'.Ft k:=fun k hk ⟨b,ob,h1,h2⟩=>(hK k hk).2 b ob h1 h2
 refine⟨B',⟨⟨ρ,F,⟨rfl,rfl,rfl,Nat.le_refl _,fun _ _ _=>rfl,fun b p e=> ?_,fun k hk=> ⟨(fr.fz k hk).1, .inl hk⟩,fun _ h=>h⟩,⟨ft,hi.obj,fun b ob k hb hf=> ⟨(hi.blk b ob k hb hf).1,(hi.blk b ob k hb hf).2.1, .inl ⟨b,ob,hb,hf⟩⟩,hi.dis,hi.fresh⟩,hs, ?_⟩,fun b p e=> ?_,sz⟩, ?_⟩
 ·by_cases hb:b=it
  ·subst hb
   have e:(if b=b then some (.blk kit 0 0)else B.ρ b)=some p:=e
   rw [if_pos rfl]at e
   rw [hit,e]
  ·have e:(if b=it then some (.blk kit 0 0)else B.ρ b)=some p:=e
   rw [if_neg hb]at e
   exact fr.rho b p e
 ·obtain⟨d0,Ds,d1,d2,d3⟩:=dn
  exact⟨Nat.le_trans d0 fr.size,Ds,d1,d2,d3⟩
 ·by_cases hb:b=it
  ·subst hb;exact List.mem_cons_self
  ·have e:(if b=it then some (.blk kit 0 0)else B.ρ b)=some p:=e
   rw [if_neg hb]at e
   exact List.mem_cons_of_mem _ (ids b p e)
 ·rintro st' a' w' ⟨⟨ρ',F',fr',⟨ft',hi'⟩,hs',dn'⟩,_,sz'⟩
  have inB: ∀k,(B'.Ft k∨w.heap.size≤k)→B.Ft k∨B.w.heap.size≤k:=fun k hk=>by
   rcases hk with⟨b,ob,h1,h2⟩|hk
   ·exact(hi.blk b ob k h1 h2).2.2
   ·exact .inr (Nat.le_trans fr.size hk)
  have hit':ρ' it=some (.blk kit 0 0):=fr'.rho it _ (if_pos rfl)
  have hmem: ∀k,k=kit∨k=km→w'.heap[k]? =w.heap[k]? :=fun k hk=>fr'.mem k (lk k hk) (nK k hk)
  refine⟨⟨ρ',F',ft',⟨fr'.os.trans fr.os,fr'.tape.trans fr.tape,fr'.output.trans fr.output,Nat.le_trans fr.size fr'.size,fun k hk hn=> ?_,fun b p e=> ?_,fun k hk=> ?_,fun k hk=>fr'.bf k (fr.bf k hk)⟩,⟨hi'.obj,fun b ob k hb hf=> ?_,hi'.dis,hi'.fresh⟩,hs', ?_,hit',fun k hk=> ⟨fun hf=> ?_,fun b ob hb hf=> ?_⟩⟩,ids,sz',bit,(hmem _ (.inl rfl)).trans itx,(hmem _ (.inr rfl)).trans mpx⟩
  ·refine(fr'.mem k (Nat.lt_of_lt_of_le hk fr.size) fun⟨b,ob,h1,h2⟩=> ?_).trans (fr.mem k hk hn)
   rcases(hi.blk b ob k h1 h2).2.2 with h|h
   ·exact hn h
   ·omega
  ·apply fr'.rho
   show(if b=it then some (.blk kit 0 0)else B.ρ b)=some p
   by_cases hb:b=it
   ·subst hb
    have:=fr.rho b p e
    rw [if_pos rfl,←hit,this]
   ·rw [if_neg hb];exact e
  ·obtain⟨x1,x2⟩:=fr'.fz k hk
   refine⟨x1, ?_⟩
   rcases x2 with x2|x2
   ·exact(fr.fz k x2).2
   ·exact .inr (inB k x2)
  ·obtain⟨x1,x2,x3⟩:=hi'.blk b ob k hb hf
   exact⟨x1,x2,inB k x3⟩
  ·obtain⟨_,Ds,d1,d2,d3⟩:=dn'
   exact⟨dn.1,Ds,d1,d2,d3⟩
  ·have:=lk k hk
   rcases(fr'.fz k hf).2 with x|x|x
   ·exact(hK k hk).1 x
   ·exact nK k hk x
   ·exact absurd x (by show ¬ w.heap.size≤k;omega)
  ·have:=lk k hk
   rcases(hi'.blk b ob k hb hf).2.2 with x|x
   ·exact nK k hk x
   ·exact absurd x (by show ¬ w.heap.size≤k;omega)
theorem It.put {it kit km:Nat} {es:Array MapEntry} {seen:Array Nat} {a:Act} {w:World} (h:It B N L st it kit km es seen a w) {d:Nat} {tv:TV} {v:Value} (hd:d<N) (hr: ∀ρ F w,dG ρ F w tv v):
  It B N L ⟨(d,tv)::st.slots,st.heap⟩ it kit km es seen (a.put (some d) v) w:=by
 obtain⟨⟨ρ,F,ft,fr,hi,hs,dn,hit,hK⟩,ids,sz,bit,itx,mpx⟩:=h
 exact⟨⟨ρ,F,ft,fr,hi,Hl hs (by omega) (hr _ _ _),dn,hit,hK⟩,ids,by simp [Act.put,sz],bit,itx,mpx⟩
theorem It.turn {it kit km:Nat} {es:Array MapEntry} {seen seen':Array Nat} {a:Act} {w w':World} (h:It B N L st it kit km es seen a w) (ho:w'.os=w.os) (ht:w'.tape=w.tape) (hp:w'.output=w.output)
  (hh:w'.heap=w.heap.setIfInBounds kit (.mapIter (some km) es.size seen' es.size)):It B N L st it kit km es seen' a w':=by
 obtain⟨⟨ρ,F,ft,fr,hi,hs,dn,hit,hK⟩,ids,sz,bit,itx,mpx⟩:=h
 have hlt:=lt_of_heap itx
 have hold: ∀k,k≠kit→w'.heap[k]? =w.heap[k]? :=fun k hk=>by rw [hh,Array.getElem?_setIfInBounds_ne (Ne.symm hk)]
 have hsz:w'.heap.size=w.heap.size:=by rw [hh,Array.size_setIfInBounds]
 have hkk:km≠kit:=fun e=>by subst e;rw [itx]at mpx;cases mpx
 have g:Gr ρ F w ρ F w':=⟨fun _ _ h=>h,fun _ h=>h,fun k hk=>hold k fun e=>(hK kit (.inl rfl)).1 (e ▸ hk)⟩
 refine⟨⟨ρ,F,ft,⟨ho.trans fr.os,ht.trans fr.tape,hp.trans fr.output,by rw [hsz];exact fr.size,fun k hk hn=>(hold k (by omega)).trans (fr.mem k hk hn),fr.rho,fun k hk=> ⟨by rw [hsz];exact(fr.fz k hk).1,(fr.fz k hk).2⟩,fr.bf⟩,
  ⟨fun b ob hb=>(hi.obj b ob hb).keep g (fun _ h=>h) fun k hk=>hold k fun e=>(hK kit (.inl rfl)).2 b ob hb (e ▸ hk),fun b ob k hb hf=> ⟨by rw [hsz];exact(hi.blk b ob k hb hf).1,(hi.blk b ob k hb hf).2⟩,hi.dis,hi.fresh⟩,
  fun t tv h=> ?_,dn.gr g,hit,hK⟩,ids,sz,bit,by rw [hh];simp [hlt],by rw [hold km hkk];exact mpx⟩
 obtain⟨v,hv,hr⟩:=hs t tv h
 exact⟨v,hv,hr.gr g⟩
theorem It.eval {it kit km:Nat} {es:Array MapEntry} {seen:Array Nat} {a:Act} {w:World} (h:It B N L st it kit km es seen a w) {t:Nat} (hsl:get st.slots t=some (.v (.one (.ptr it 0)))):a.eval (.tmp t)= .pointer (some ⟨kit,0,none⟩):=by
 obtain⟨⟨ρ,F,ft,fr,hi,hs,dn,hit,hK⟩,_⟩:=h
 obtain⟨v,hv,k,base,cap,h1,h2⟩:=hs _ _ hsl
 rw [hit]at h1;cases h1
 simp [Act.eval,hv,h2]
structure Es (es:Array MapEntry) (n:Nat) (keyS valS:Nat→SV):Prop where
 sz:es.size=n
 at_: ∀i,i<n→ ∃e,es[i]? =some e∧e.born=i∧(∀ρ F w,iX ρ F w (keyS i) e.key)∧ ∀ρ F w,iX ρ F w (valS i) e.val
theorem Es.born {es:Array MapEntry} {n:Nat} {keyS valS:Nat→SV} (h:Es es n keyS valS):es.toList.map (·.born)=List.range n:=by
 apply List.ext_getElem?
 intro i
 rw [List.getElem?_map,Array.getElem?_toList]
 by_cases hi:i<n
 ·obtain⟨e,h1,h2,_⟩:=h.at_ i hi
  rw [h1,List.getElem?_range hi]
  simp [h2]
 ·rw [Array.getElem?_eq_none (by rw [h.sz];omega),List.getElem?_eq_none (by simp;omega)];rfl
theorem Es.mem {es:Array MapEntry} {n:Nat} {keyS valS:Nat→SV} (h:Es es n keyS valS) {e:MapEntry} (he:e∈es.toList):e.born<n∧es[e.born]? =some e:=by
 obtain⟨i,hi,rfl⟩:=List.mem_iff_getElem.1 he
 have hi2:i<n:=by rw [←h.sz];simpa using hi
 obtain⟨e',h1,h2,_⟩:=h.at_ i hi2
 have:es[i]? =some (es.toList[i]):=by rw [←Array.getElem?_toList,List.getElem?_eq_getElem hi]
 rw [this]at h1;cases h1
 rw [h2]
 exact⟨hi2,this⟩
theorem It.next {it kit km n:Nat} {keyS valS:Nat→SV} {es:Array MapEntry} {seen:Array Nat} {a:Act} {w:World} (h:It B N L st it kit km es seen a w) (hes:Es es n keyS valS)
  {o0 o1:Oper} {t2 t3 t4 id:Nat} (e0:o0.op= .next (.tmp t2) false) (g0:o0.guard=none) (d0:o0.dst=some t3) (e1:o1.op= .extract (.tmp t3) 0) (g1:o1.guard=none) (d1:o1.dst=some t4) (h3:t3<N) (h4:t4<N)
  (hsl:get st.slots t2=some (.v (.one (.ptr it 0)))) {Q:Exit→Act→World→Prop}
  (hend:(∀i,i<n→i∈seen)→ ∀a' w',It B N L ⟨(t4,vB false)::(t3, .iG [.one (.d (.bool false))])::st.slots,st.heap⟩ it kit km es seen a' w'→Q .normal a' w')
  (hmore: ∀i,i<n→i ∉ seen→ ∀a' w',It B N L ⟨(t4,vB true)::(t3, .iG [.one (.d (.bool true)),keyS i,valS i])::st.slots,st.heap⟩ it kit km es (seen.push i) a' w'→Q .normal a' w'):
  (Code.region id #[o0,o1] false).wpIn (FW rd) 0 P Q a w:=by
 refine wpIn_region ?_
 show wpOpsIn _ _ _ _ _ [0,1] a w
 have hev:=h.eval hsl
 have hbd: ∀x∈es.toList,x.born<es.size:=fun x hx=>by rw [hes.sz];exact(hes.mem hx).1
 have hput: ∀(w':World) (v:Value),(execOp (a.put (some t3) v).eval o1).run P w'=(Instr.extract v 0>>=fun v=>pure (Next.value v):Sem Next).run P w':=fun w' v=>by
  have:(a.put (some t3) v).eval (.tmp t3)=v:=by simp [Act.eval,Act.put,h.sz,h3]
  simp only [execOp,e1,this]
 rcases run_next_at (P:=P) w o0.type kit km es.size es.size seen es es.size h.itx h.mpx hbd (Nat.le_refl _)with⟨hl,hrun⟩|⟨e,he,w1,hw1,hrun⟩
 ·rw [wpOpsIn_cons]
  refine vg (o:=o0) rfl g0 (v:= .tuple #[.bool false]) (w':=w) ?_ ?_
  ·simp only [execOp,e0,hev,Sem.run_bind,hrun,Result.andThen_ok,Sem.run_pure]
  rw [wpOpsIn_cons]
  refine vg (o:=o1) rfl g1 (v:= .bool false) (w':=w) ?_ ?_
  ·rw [d0,hput];simp [Instr.extract]
  rw [d0,d1]
  refine hend (fun i hi=> ?_) _ _ ((h.put (tv:= .iG [.one (.d (.bool false))]) h3 fun ρ F w=> ⟨[.bool false],rfl,rfl,trivial⟩).put (tv:=vB false) h4 fun ρ F w=>rfl)
  obtain⟨e,q1,q2,_⟩:=hes.at_ i hi
  apply Classical.byContradiction
  intro hns
  have:e∈leftOf es seen:=by
   unfold leftOf
   rw [Array.mem_filter]
   exact⟨Array.mem_of_getElem? q1,by simp [q2,hns]⟩
  have:=Array.size_pos_of_mem this
  omega
 ·have hel:e∈es∧e.born ∉ seen:=by
   have:e∈leftOf es seen:=by simpa using he
   unfold leftOf at this
   rw [Array.mem_filter]at this
   exact⟨this.1,by simpa using this.2⟩
  obtain⟨m1,m2⟩:=hes.mem (by simpa using hel.1)
  obtain⟨e',q1,q2,q3,q4⟩:=hes.at_ _ m1
  rw [m2]at q1;cases q1
  rw [wpOpsIn_cons]
  refine vg (o:=o0) rfl g0 (v:= .tuple #[.bool true,e.key,e.val]) (w':=setBlock w1 kit (.mapIter (some km) es.size (seen.push e.born) es.size)) ?_ ?_
  ·simp only [execOp,e0,hev,Sem.run_bind,hrun,Result.andThen_ok,Sem.run_pure]
  rw [wpOpsIn_cons]
  refine vg (o:=o1) rfl g1 (v:= .bool true) (w':=setBlock w1 kit (.mapIter (some km) es.size (seen.push e.born) es.size)) ?_ ?_
  ·rw [d0,hput];simp [Instr.extract]
  rw [d0,d1]
  have h':It B N L st it kit km es (seen.push e.born) a (setBlock w1 kit (.mapIter (some km) es.size (seen.push e.born) es.size)):=by
   rcases hw1 with rfl|rfl
   ·exact h.turn rfl rfl rfl rfl
   ·exact h.turn rfl rfl rfl rfl
  exact hmore _ m1 hel.2 _ _ ((h'.put (tv:= .iG [.one (.d (.bool true)),keyS e.born,valS e.born]) h3 fun ρ F w=> ⟨[.bool true,e.key,e.val],rfl,rfl,q3 _ _ _,q4 _ _ _,trivial⟩).put (tv:=vB true) h4 fun ρ F w=>rfl)
def RWp (rd:Option Nat) (P:Program) (B:Base) (N:Nat) (L:List Nat) (ops:Array Oper) (l:List Nat) (Qs:St→Prop) (st:St):Prop:=
 ∀Q:Exit→Act→World→Prop,(∀st' a w,Qs st'→Conc B N L st' a w→Q .normal a w)→ ∀a w,Conc B N L st a w→wpOpsIn (FW rd) 0 P ops Q l a w
def aeS (Fc:Cl→List SV→List (Nat × Option Ob)→TV→List (Nat × Option Ob)→Prop) (T:List (Nat × TI)) (ops:Array Oper) (l:List Nat) (N:Nat) (L:List Nat) (x:FQ) (st:St):Option (List Prop × St):=
 match run Fc T ops.toList x.yb x.an x.fr N l (Nl st)with
 |some (cs,r)=>finish L x.fin x.ts cs r
 |none=>none
theorem rwp {T:List (Nat × TI)} (hT:rT P T) {ops:Array Oper} {l:List Nat} {Qs:St→Prop} {st':St} (s:St) (x:FQ) {cs:List Prop} (he:aeS (Ma P) T ops l N L x st=some (cs,s)) (hc:All cs) (hi:bZ B N L s st') (hQ:Qs st'):RWp rd P B N L ops l Qs st:=by
 intro Q hq a w hconc
 unfold aeS at he
 split at he
 ·rename_i cs0 r hrun
  have hid:=hconc.ids
  exact Ik hT hrun (AO he hc) (A8 hconc) fun a' w' hrc=>hq _ _ _ hQ (hi _ _ (yR he hc hrc hid))
 ·cases he
theorem It.entry {it kit km n i:Nat} {keyS valS:Nat→SV} {es:Array MapEntry} {seen:Array Nat} {a:Act} {w:World} (h:It B N L st it kit km es (seen.push i) a w) (hes:Es es n keyS valS) (hi:i<n)
  {ops:Array Oper} {l:List Nat} {o0 o1 o2:Oper} {t2 t5 t6 t7 id:Nat} (hl:List.range ops.size=0::1::2::l) (p0:ops[0]? =some o0) (p1:ops[1]? =some o1) (p2:ops[2]? =some o2)
  (e0:o0.op= .entry (.tmp t2)) (g0:o0.guard=none) (d0:o0.dst=some t5) (e1:o1.op= .extract (.tmp t5) 0) (g1:o1.guard=none) (d1:o1.dst=some t6) (e2:o2.op= .extract (.tmp t5) 1) (g2:o2.guard=none) (d2:o2.dst=some t7)
  (h5:t5<N) (h6:t6<N) (h7:t7<N) (n56:t5≠t6)
  (hsl:get st.slots t2=some (.v (.one (.ptr it 0)))) {Q:Exit→Act→World→Prop}
  (hQ: ∀a' w',It B N L ⟨(t7, .v (valS i))::(t6, .v (keyS i))::(t5, .iG [keyS i,valS i])::st.slots,st.heap⟩ it kit km es (seen.push i) a' w'→wpOpsIn (FW rd) 0 P ops Q l a' w'):
  (Code.region id ops false).wpIn (FW rd) 0 P Q a w:=by
 refine wpIn_region ?_
 rw [hl]
 have hev:=h.eval hsl
 obtain⟨e,q1,q2,q3,q4⟩:=hes.at_ i hi
 have hmem:e∈es.toList:=by rw [←Array.getElem?_toList]at q1;exact List.mem_of_getElem? q1
 have hrun:=run_entry_at (P:=P) w kit km es.size seen es es.size e (by rw [q2];exact h.itx) h.mpx hmem (by rw [hes.born];exact List.nodup_range)
 have sz:=h.sz
 rw [wpOpsIn_cons]
 refine vg (o:=o0) p0 g0 (v:= .tuple #[e.key,e.val]) (w':=w) ?_ ?_
 ·simp only [execOp,e0,hev,Sem.run_bind,hrun,Result.andThen_ok,Sem.run_pure]
 rw [d0,wpOpsIn_cons]
 refine vg (o:=o1) p1 g1 (v:=e.key) (w':=w) ?_ ?_
 ·have:(a.put (some t5) (.tuple #[e.key,e.val])).eval (.tmp t5)= .tuple #[e.key,e.val]:=by simp [Act.eval,Act.put,sz,h5]
  simp [execOp,e1,this,Instr.extract]
 rw [d1,wpOpsIn_cons]
 refine vg (o:=o2) p2 g2 (v:=e.val) (w':=w) ?_ ?_
 ·have:((a.put (some t5) (.tuple #[e.key,e.val])).put (some t6) e.key).eval (.tmp t5)= .tuple #[e.key,e.val]:=by
   rw [eval_put_ne n56,IA (by omega)]
  simp [execOp,e2,this,Instr.extract]
 rw [d2]
 exact hQ _ _ (((h.put (tv:= .iG [keyS i,valS i]) h5 fun ρ F w=> ⟨[e.key,e.val],rfl,q3 _ _ _,q4 _ _ _,trivial⟩).put (tv:= .v (keyS i)) h6 fun ρ F w=>q3 _ _ _).put (tv:= .v (valS i)) h7 fun ρ F w=>q4 _ _ _)
def Ht (s:SV):Prop:= ∀ρ F w ρ' F' w' v,iX ρ F w s v→iX ρ' F' w' s v
theorem It.start {a:Act} {w:World} (hc:Conc B N L st a w) {tm t1 t2 b it id:Nat} {T K V:TypeId} {m:Pv} {keyS valS:Nat→SV} {o0 o1:Oper}
  (e0:o0.op= .move (.tmp tm)) (g0:o0.guard=none) (d0:o0.dst=some t1) (e1:o1.op= .range T (.tmp t1)) (g1:o1.guard=none) (d1:o1.dst=some t2) (h1:t1<N) (h2:t2<N)
  (hT:P.underlying T=some (.map K V)) (hsl:get st.slots tm=some (.v (.one (.mp b)))) (hb:get st.heap b=some (some (.map m))) (hit:get st.heap it=none)
  (hk: ∀i,i<m.len→nk m.kagg (gu (fun j=> .d (m.key i j)) 0 m.ksz)=some (keyS i)∧nk m.vagg (gu (m.val i) 0 m.vsz)=some (valS i)) (hp: ∀i,i<m.len→Ht (keyS i)∧Ht (valS i)) {Q:Exit→Act→World→Prop}
  (hQ: ∀es kit km a' w',Es es m.len keyS valS→It B N L ⟨(t2,vP it 0)::(t1, .v (.one (.mp b)))::st.slots,(it,none)::(b,none)::st.heap⟩ it kit km es #[] a' w'→Q .normal a' w'):
  (Code.region id #[o0,o1] false).wpIn (FW rd) 0 P Q a w:=by
 obtain⟨⟨ρ,F,fr,⟨ft,hi⟩,hs,dn⟩,ids,sz⟩:=hc
 obtain⟨v,hv,hvr⟩:=hs _ _ hsl
 have hvr':=hvr
 obtain⟨km,base,cap,hρ,rfl⟩:=hvr
 obtain⟨km',base',cap',es,r1,r2,r3,r4,r5,r6⟩:=hi.obj b _ hb
 rw [hρ]at r1;cases r1
 have hes:Es es m.len keyS valS:=⟨r4,fun i hi'=>by
  obtain⟨e,q1,q2,⟨s1,q3,q4⟩,⟨s2,q5,q6⟩⟩:=r6 i hi'
  rw [(hk i hi').1]at q3;cases q3
  rw [(hk i hi').2]at q5;cases q5
  exact⟨e,q1,q2,fun ρ' F' w'=>(hp i hi').1 _ _ _ _ _ _ _ q4,fun ρ' F' w'=>(hp i hi').2 _ _ _ _ _ _ _ q6⟩⟩
 have hitb:it≠b:=fun e=>by subst e;rw [hit]at hb;cases hb
 have hρit:ρ it=none:=hi.fresh it hit
 have hmb:=hi.blk b _ km hb r2
 refine wpIn_region ?_
 show wpOpsIn _ _ _ _ _ [0,1] a w
 rw [wpOpsIn_cons]
 have hevm:a.eval (.tmp tm)= .map (some km):=by simp [Act.eval,hv]
 refine vg (o:=o0) rfl g0 (v:= .map (some km)) (w':=w) (by simp [execOp,e0,hevm]) ?_
 rw [d0,wpOpsIn_cons]
 let w1:World:=w.alloc (.mapIter (some km) es.size #[] es.size)
 have hev1:(a.put (some t1) (.map (some km))).eval (.tmp t1)= .map (some km):=IA (by omega)
 refine vg (o:=o1) rfl g1 (v:= .pointer (some ⟨w.heap.size,0,none⟩)) (w':=w1) ?_ ?_
 ·simp only [execOp,e1,hev1,Sem.run_bind,run_range_map w T K V km es es.size hT r3,Result.andThen_ok,Sem.run_pure];rfl
 rw [d1]
 have hsz1:w1.heap.size=w.heap.size+1:=by show(w.heap.push _).size=_;simp
 have hold: ∀k,k<w.heap.size→w1.heap[k]? =w.heap[k]? :=fun k hk=>heap_alloc_old w _ hk
 have hupd: ∀x p,ρ x=some p→fw ρ it (.blk w.heap.size 0 0) x=some p:=dA hρit
 have g:Gr ρ F w (fw ρ it (.blk w.heap.size 0 0)) F w1:=⟨hupd,fun _ h=>h,fun k hk=>hold k (fr.fz k hk).1⟩
 have hget: ∀x ob,dm ((it,none)::(b,none)::st.heap) x=some (some ob)→get st.heap x=some (some ob)∧x≠b∧x≠it:=by
  intro x ob hx
  unfold dm at hx
  rw [aT,aT]at hx
  split at hx
  ·cases hx
  ·rename_i n1
   split at hx
   ·cases hx
   ·rename_i n2;exact⟨hx,Ne.symm n2,Ne.symm n1⟩
 refine hQ es w.heap.size km _ _ hes ⟨⟨fw ρ it (.blk w.heap.size 0 0),F,ft,⟨fr.os,fr.tape,fr.output,by rw [hsz1];exact Nat.le_succ_of_le fr.size,fun k hk hn=>(hold k (Nat.lt_of_lt_of_le hk fr.size)).trans (fr.mem k hk hn),fun x p e=>hupd x p (fr.rho x p e),fun k hk=> ⟨by rw [hsz1];exact Nat.lt_succ_of_lt (fr.fz k hk).1,(fr.fz k hk).2⟩,fr.bf⟩,
  ⟨fun x ob hx=> ?_,fun x ob k hx hf=> ?_,fun x x' ob ob' k hx hx'=>hi.dis x x' ob ob' k (hget x ob hx).1 (hget x' ob' hx').1,fun x hx=> ?_⟩, ?_,dn.gr g,aV _ _,fun k hk=> ?_⟩,ids,by simp [Act.put,sz],fr.size,heap_alloc_new w _,by rw [hold km hmb.1];exact r3⟩
 ·exact(hi.obj x ob (hget x ob hx).1).keep g (fun _ h=>h) fun k hk=>hold k (hi.blk x ob k (hget x ob hx).1 hk).1
 ·obtain⟨y1,y2,y3⟩:=hi.blk x ob k (hget x ob hx).1 hf
  exact⟨by rw [hsz1];omega,y2,y3⟩
 ·unfold dm at hx
  rw [aT,aT]at hx
  split at hx
  ·cases hx
  ·rename_i n1
   split at hx
   ·cases hx
   ·unfold fw;rw [if_neg (Ne.symm n1)];exact hi.fresh x hx
 ·refine Hl (Hl (fun t tv ht=> ?_) (by omega) ?_) (by simp [Act.put];omega) ?_
  ·obtain⟨u,hu,hr⟩:=hs t tv ht
   exact⟨u,hu,hr.gr g⟩
  ·exact dG.gr g (s:= .v (.one (.mp b))) hvr'
  ·exact⟨w.heap.size,0,0,aV _ _,rfl⟩
 ·rcases hk with rfl|rfl
  ·exact⟨fun hf=>by have:=(fr.fz _ hf).1;omega,fun x ob hx hf=>by have:=(hi.blk x ob _ (hget x ob hx).1 hf).1;omega⟩
  ·exact⟨hmb.2.1,fun x ob hx hf=>(hget x ob hx).2.1 (hi.dis x b ob _ k (hget x ob hx).1 hb hf r2)⟩
def Gy {σ:Type} [DecidableEq σ]:List (Option σ)→Option σ
 |[]=>none
 |[a]=>a
 |a::b::l=>if a=Gy (b::l)then a else none
theorem IB {σ:Type} [DecidableEq σ] {r:σ}: ∀{l:List (Option σ)},Gy l=some r→ ∀x∈l,x=some r
 |[],h,_,hx=>by cases hx
 |[a],h,x,hx=>by rw [List.mem_singleton]at hx;subst hx;exact h
 |a::b::l,h,x,hx=>by
  unfold Gy at h
  split at h
  ·rename_i e
   rcases List.mem_cons.1 hx with rfl|hx
   ·exact h
   ·exact IB (e ▸ h) x hx
  ·cases h
def Eh {σ:Type} [DecidableEq σ] (body:σ→Nat→Option σ):Nat→List Nat→σ→Option σ
 |0,_,s=>some s
 |k+1,left,s=>Gy (left.map fun x=>(body s x).bind (Eh body k (left.erase x)))
theorem Q6 {σ:Type} [DecidableEq σ] {body:σ→Nat→Option σ} {k x:Nat} {left:List Nat} {s r:σ} (h:Eh body (k+1) left s=some r) (hx:x∈left): ∃s',body s x=some s'∧Eh body k (left.erase x) s'=some r:=by
 have:=IB (show Gy (left.map fun x=>(body s x).bind (Eh body k (left.erase x)))=some r from h) _ (List.mem_map.2 ⟨x,hx,rfl⟩)
 cases hb:body s x with
 |none=>rw [hb]at this;cases this
 |some s'=>rw [hb]at this;exact⟨s',rfl,this⟩
def acr (N t1 t2 t3 t4 t5 t6 t7:Nat):Bool:=Nat.blt t1 N && Nat.blt t2 N && Nat.blt t3 N && Nat.blt t4 N && Nat.blt t5 N && Nat.blt t6 N && Nat.blt t7 N && !(Nat.beq t5 t6) && !(Nat.beq t3 t2) && !(Nat.beq t4 t2)
theorem UY {N t1 t2 t3 t4 t5 t6 t7:Nat} (h:acr N t1 t2 t3 t4 t5 t6 t7=true):(t1<N∧t2<N∧t3<N∧t4<N∧t5<N∧t6<N∧t7<N)∧t5≠t6∧t3≠t2∧t4≠t2:=by
 unfold acr at h
 have lt: ∀a b,Nat.blt a b=true→a<b:=fun a b h=>Nat.le_of_ble_eq_true h
 have ne: ∀a b,(!(Nat.beq a b))=true→a≠b:=fun a b h e=>by subst e;simp at h
 simp only [Bool.and_eq_true]at h
 obtain⟨⟨⟨⟨⟨⟨⟨⟨⟨a1,a2⟩,a3⟩,a4⟩,a5⟩,a6⟩,a7⟩,a8⟩,a9⟩,a10⟩:=h
 exact⟨⟨lt _ _ a1,lt _ _ a2,lt _ _ a3,lt _ _ a4,lt _ _ a5,lt _ _ a6,lt _ _ a7⟩,ne _ _ a8,ne _ _ a9,ne _ _ a10⟩
theorem nM {σ:Type} [DecidableEq σ] (S:σ→St) {body:σ→Nat→Option σ} {s0 r:σ} (m:Pv) (b it:Nat) (keyS valS:Nat→SV) (h:Eh body m.len (List.range m.len) s0=some r)
  {tm t1 t2 t3 t4 t5 t6 t7 X Y id1 id2 id3:Nat} {T K V:TypeId} {o0 o1 o2 o3 p0 p1 p2:Oper} {ops:Array Oper} (l:List Nat) {BODY:Code} {Q:Exit→St→Prop}
  (hsl:get st.slots tm=some (.v (.one (.mp b)))) (hb:get st.heap b=some (some (.map m))) (hit:get st.heap it=none)
  (hk: ∀i,i<m.len→nk m.kagg (gu (fun j=> .d (m.key i j)) 0 m.ksz)=some (keyS i)∧nk m.vagg (gu (m.val i) 0 m.vsz)=some (valS i)) (hp: ∀i,i<m.len→Ht (keyS i)∧Ht (valS i))
  (himp: ∀B,bZ B N (it::L) ⟨(t2,vP it 0)::(t1, .v (.one (.mp b)))::st.slots,(it,none)::(b,none)::st.heap⟩ (S s0))
  (hS: ∀s,get (S s).slots t2=some (vP it 0))
  (hbody: ∀B s i s',i<m.len→body s i=some s'→RWp rd P B N (it::L) ops l (fun st1=>bW rd P B N (it::L) BODY (fun e st'=>(e= .normal∨e= .exit Y)∧st'=S s') st1)
   ⟨(t7, .v (valS i))::(t6, .v (keyS i))::(t5, .iG [keyS i,valS i])::(t4,vB true)::(t3, .iG [.one (.d (.bool true)),keyS i,valS i])::(S s).slots,(S s).heap⟩)
  (hend:Q .normal ⟨(t4,vB false)::(t3, .iG [.one (.d (.bool false))])::(S r).slots,(S r).heap⟩)
  (hT:P.underlying T=some (.map K V):=by kernel_rfl)
  (hops:(o0.op= .move (.tmp tm)∧o0.guard=none∧o0.dst=some t1)∧(o1.op= .range T (.tmp t1)∧o1.guard=none∧o1.dst=some t2)∧(o2.op= .next (.tmp t2) false∧o2.guard=none∧o2.dst=some t3)∧(o3.op= .extract (.tmp t3) 0∧o3.guard=none∧o3.dst=some t4)∧
   (p0.op= .entry (.tmp t2)∧p0.guard=none∧p0.dst=some t5)∧(p1.op= .extract (.tmp t5) 0∧p1.guard=none∧p1.dst=some t6)∧(p2.op= .extract (.tmp t5) 1∧p2.guard=none∧p2.dst=some t7)∧(List.range ops.size=0::1::2::l∧ops[0]? =some p0∧ops[1]? =some p1∧ops[2]? =some p2):=by
    exact⟨⟨rfl,rfl,rfl⟩,⟨rfl,rfl,rfl⟩,⟨rfl,rfl,rfl⟩,⟨rfl,rfl,rfl⟩,⟨rfl,rfl,rfl⟩,⟨rfl,rfl,rfl⟩,⟨rfl,rfl,rfl⟩,⟨rfl,rfl,rfl,rfl⟩⟩)
  (hlt:(acr N t1 t2 t3 t4 t5 t6 t7)=true:=by kernel_rfl):
  bW rd P B N L (.seq (.region id1 #[o0,o1] false) (.block X (.loop (.seq (.region id2 #[o2,o3] false) (.seq (.cond (.tmp t4) .skip (.exit X)) (.block Y (.seq (.region id3 ops false) BODY))))))) Q st:=by
 intro a w hc
 obtain⟨⟨a1,a2,a3⟩,⟨b1,b2,b3⟩,⟨c1,c2,c3⟩,⟨d1,d2,d3⟩,⟨f1,f2,f3⟩,⟨g1,g2,g3⟩,⟨i1,i2,i3⟩,hl,q0,q1,q2⟩:=hops
 obtain⟨⟨l1,l2,l3,l4,l5,l6,l7⟩,n56,n32,n42⟩:=UY hlt
 refine wpIn_seq (It.start hc a1 a2 a3 b1 b2 b3 l1 l2 hT hsl hb hit hk hp ?_)
 intro es kit km a' w' hes hI
 obtain⟨B',hc',hback⟩:=hI.base
 have hI0:=hback _ _ _ (himp B' _ _ hc')
 refine wpIn_block ?_
 refine wpIn_loop_ghost (fun k a w=> ∃(seen:Array Nat) (left:List Nat) (s:σ),left.length=k∧left.Nodup∧(∀x,x∈left↔x<m.len∧x ∉ seen)∧Eh body k left s=some r∧It B N L (S s) it kit km es seen a w) m.len
  ⟨#[],List.range m.len,s0,by simp,List.nodup_range,fun x=>by simp,h,hI0⟩ ?_
 rintro k a2 w2 ⟨seen,left,s,hlen,hnd,hmem,hgo,hI⟩
 refine wpIn_seq (hI.next hes c1 c2 c3 d1 d2 d3 l3 l4 (hS s) (fun hall a3 w3 hI3=> ?_) fun i hi hns a3 w3 hI3=> ?_)
 ·have hleft:left=[]:=by
   rw [List.eq_nil_iff_forall_not_mem]
   intro x hx
   have:=(hmem x).1 hx
   exact this.2 (hall x this.1)
  subst hleft
  have hk0:k=0:=by simpa using hlen.symm
  subst hk0
  have hsr:s=r:=Option.some.inj hgo
  subst hsr
  refine wpIn_seq (wpIn_cond_split (t:=false) ?_ (fun e=>by cases e) fun _=>wpIn_exit ?_)
  ·obtain⟨ρ,F,_,_,hs,_⟩:=hI3.acW.ex
   obtain⟨v,hv,hr⟩:=hs t4 (vB false) (by rw [aT,if_pos rfl])
   have:v= .bool false:=hr
   subst this
   simp [Act.eval,hv]
  ·simp only [Exit.then,Exit.inBlock,if_true]
   exact⟨_,hend,hI3.acW⟩
 ·have hil:i∈left:=(hmem i).2 ⟨hi,hns⟩
  cases k with
  |zero=>rw [List.length_eq_zero_iff]at hlen;subst hlen;cases hil
  |succ k=>
   obtain⟨s',hbs,hgo'⟩:=Q6 hgo hil
   refine wpIn_seq (wpIn_cond_split (t:=true) ?_ (fun _=>wpIn_skip ?_) fun e=>by cases e)
   ·obtain⟨ρ,F,_,_,hs,_⟩:=hI3.acW.ex
    obtain⟨v,hv,hr⟩:=hs t4 (vB true) (by rw [aT,if_pos rfl])
    have:v= .bool true:=hr
    subst this
    simp [Act.eval,hv]
   ·refine wpIn_block (wpIn_seq (hI3.entry hes hi hl q0 q1 q2 f1 f2 f3 g1 g2 g3 i1 i2 i3 l5 l6 l7 n56 ?_ fun a4 w4 hI4=> ?_))
    ·rw [aT,if_neg n42,aT,if_neg n32];exact hS s
    ·obtain⟨B4,hc4,hback4⟩:=hI4.base
     refine hbody B4 s i s' hi hbs _ (fun st1 a6 w6 hq6 hc6=>wpIn_mono (hq6 a6 w6 hc6) ?_) a4 w4 hc4
     rintro e a5 w5 ⟨st5,⟨he,rfl⟩,hc5⟩
     have hI5:=hback4 _ _ _ hc5
     have hfin: ∃k',k'<k+1∧ ∃(seen:Array Nat) (left:List Nat) (s:σ),left.length=k'∧left.Nodup∧(∀x,x∈left↔x<m.len∧x ∉ seen)∧Eh body k' left s=some r∧It B N L (S s) it kit km es seen a5 w5:=by
      refine⟨k,Nat.lt_succ_self k,seen.push i,left.erase i,s', ?_,hnd.erase i,fun x=> ?_,hgo',hI5⟩
      ·rw [List.length_erase_of_mem hil,hlen];rfl
      ·rw [hnd.mem_erase_iff,hmem,Array.mem_push]
       constructor
       ·rintro ⟨q1,q2,q3⟩;exact⟨q2,fun hh=>hh.elim q3 q1⟩
       ·rintro ⟨q1,q2⟩;exact⟨fun e=>q2 (.inr e),q1,fun e=>q2 (.inl e)⟩
     rcases he with rfl|rfl
     ·exact hfin
     ·simp only [Exit.inBlock,if_true];exact hfin
theorem bZ.aeO {b c l E esz len:Nat} {el:Nat→Nat→DV} (hb:get st.heap b=some (some (.arr E esz len el))) (hc:get st.heap c=some (some (.suf b l esz))) (hl:l≤len):
  bZ B N L st ⟨st.slots,(c,some (.arr E esz (len - l) fun i j=>el (i+l) j))::(b,none)::st.heap⟩:=by
 rintro a w ⟨⟨ρ,F,fr,⟨ft,hi⟩,hs,dn⟩,hid,sz⟩
 have hne:c≠b:=fun e=>by rw [e,hb]at hc;cases hc
 have hu: ∀x,dm ((c,some (.arr E esz (len - l) fun i j=>el (i+l) j))::(b,none)::st.heap) x=if x=c then some (some (.arr E esz (len - l) fun i j=>el (i+l) j))else if x=b then some none else get st.heap x:=fun x=>by
  unfold dm
  rw [aT,aT]
  by_cases e1:c=x
  ·rw [if_pos e1,if_pos e1.symm]
  ·rw [if_neg e1,if_neg (Ne.symm e1)]
   by_cases e2:b=x
   ·rw [if_pos e2,if_pos e2.symm]
   ·rw [if_neg e2,if_neg (Ne.symm e2)]
 refine⟨⟨ρ,F,fr,⟨fun x k=>if x=c then ft b k else x≠b∧ft x k,hi.step (.refl _ _ _) fr (Nat.le_refl _) (fun x=>x=c∨x=b) (fun x ob hx hh=> ?_) (fun x ob hx hh=> ?_) (fun x ob k hx hh hf=> ?_) (fun x x' ob ob' k hx hx' hh hh' _ _=> ?_) (fun k hk=> .inl hk) fun x hx=> ?_⟩,hs,dn⟩,hid,sz⟩
 ·have h1:x≠c:=fun e=>hx (.inl e)
  have h2:x≠b:=fun e=>hx (.inr e)
  rw [hu,if_neg h1,if_neg h2]at hh
  exact⟨hh,fun _ _=>rfl,fun k=>by simp only [if_neg h1];exact⟨fun q=>q.2,fun q=> ⟨h2,q⟩⟩⟩
 ·rw [hu]at hh
  by_cases h1:x=c
  ·subst h1
   rw [if_pos rfl]at hh
   cases hh
   simp only [if_true]
   have hob:=hi.obj b _ hb
   have hsf:=hi.obj x _ hc
   rcases hob with⟨g1,g2⟩|⟨k,base,cap,g1,g2,vs,g3,g4,g5,g6,g7⟩
   ·rcases hsf with⟨_,s2,s3⟩|⟨k,base,cap,s1,_⟩
    ·exact .inl ⟨s2,by omega⟩
    ·rw [g1]at s1;cases s1
   ·rcases hsf with⟨s1,_,_⟩|⟨k',base',cap',s1,s2,s3⟩
    ·rw [g1]at s1;cases s1
    ·rw [g1]at s1;cases s1
     by_cases hcap:cap=l
     ·rw [if_pos hcap]at s3
      exact .inr ⟨k,base,cap - l,s3,g2,vs,g3,by rw [show cap - l=0 by omega,Nat.zero_mul];omega,by omega,by omega,fun i hi'=>by omega⟩
     ·rw [if_neg hcap]at s3
      refine .inr ⟨k,base+l*esz,cap - l,s3,g2,vs,g3, ?_,by omega,by omega,fun i hi' j hj=> ?_⟩
      ·rw [Nat.add_assoc,←Nat.add_mul,show l+(cap - l)=cap by omega];exact g4
      ·obtain⟨u,q1,q2⟩:=g7 (i+l) (by omega) j hj
       exact⟨u,by rw [show base+l*esz+(i*esz+j)=base+((i+l)*esz+j) by rw [Nat.add_mul];omega];exact q1,q2⟩
  ·rw [if_neg h1]at hh
   rcases hx with hx|hx
   ·exact absurd hx h1
   ·rw [if_pos hx]at hh;cases hh
 ·left
  rcases hx with hx|hx
  ·subst hx
   simp only [if_true]at hf
   exact⟨b,_, .inr rfl,hb,hf⟩
  ·rw [hu,if_neg (by rw [hx];exact Ne.symm hne),if_pos hx]at hh;cases hh
 ·have one: ∀y o,y=c∨y=b→dm ((c,some (.arr E esz (len - l) fun i j=>el (i+l) j))::(b,none)::st.heap) y=some (some o)→y=c:=fun y o hy ho=>by
   rcases hy with hy|hy
   ·exact hy
   ·rw [hu,if_neg (by rw [hy];exact Ne.symm hne),if_pos hy]at ho;cases ho
  rw [one x ob hx hh,one x' ob' hx' hh']
 ·rw [hu]at hx
  split at hx
  ·cases hx
  ·split at hx
   ·cases hx
   ·exact hi.fresh x hx
theorem bZ.abp {α:Type} [Inhabited α] {b c k E esz:Nat} {cf:α→Nat→DV} {l:List α} (hb:get st.heap b=some (some (.arr E esz l.length (aN cf l)))) (hc:get st.heap c=some (some (.suf b k esz))) (hl:k≤l.length):
  bZ B N L st ⟨st.slots,(c,some (.arr E esz (l.length - k) (aN cf (l.drop k))))::(b,none)::st.heap⟩:=by
 have h:=bZ.aeO (B:=B) (N:=N) (L:=L) hb hc hl
 have e:(fun i j=>aN cf l (i+k) j)=aN cf (l.drop k):=by
  funext i j
  show cf (at' l (i+k)) j=cf (at' (l.drop k) i) j
  rw [ZC]
 rw [e]at h
 exact h
end
def SQ (Q:Exit→St→Prop):Exit→St→Prop:=fun e st=>(∀l,e≠ .goto l)∧Q e st
def SQ1 {X:Type} (Q:X→Exit→St→Prop):X→Exit→St→Prop:=fun v=>SQ (Q v)
section
variable {P:Program} {B:Base} {N:Nat} {L:List Nat} {st:St} {rd:Option Nat} {Q:Exit→St→Prop}
theorem QG {c:Code} (h:bW rd P B N L c (SQ Q) st):bW rd P B N L (.scope c) Q st:=by
 intro a w hc b k cs hro hbu hr
 obtain⟨e,a1,w1,⟨st',⟨hng,hR⟩,hconc⟩,harr⟩:=h a w hc b (.inScope c::k) cs hro hbu hr
 have fin: ∃e a2 w2,(∃st',Q e st'∧Conc B N L st' a2 w2)∧ArrivesIn (Machine.fenced P (FW rd)) P (lone (b.atR a (.code c:: .inScope c::k)) cs w) b k cs e a2 w2:=by
  cases e with
  |normal=>exact⟨.normal,a1,w1,⟨st',hR,hconc⟩,StepsIn.trans harr (.one (fenced_calm hbu hr rfl) LP)⟩
  |exit id=>
   have hx:exitTo id (.inScope c::k)=exitTo id k:=by simp [exitTo]
   exact⟨_,a1,w1,⟨st',hR,hconc⟩,fun k' hk=>harr.1 k' (by rw [hx];exact hk),fun hr' hk=>harr.2 hr' (by rw [hx];exact hk)⟩
  |goto l'=>exact absurd rfl (hng l')
  |ret=>exact⟨_,a1,w1,⟨st',hR,hconc⟩,harr⟩
  |panic ch=>exact⟨_,a1,w1,⟨st',hR,hconc⟩,harr⟩
  |outgrown=>exact⟨_,a1,w1,⟨st',hR,hconc⟩,harr⟩
 obtain⟨e,a2,w2,hq,harr⟩:=fin
 exact⟨e,a2,w2,hq, .of_steps (.one (fenced_calm hbu hr rfl) Ou) harr⟩
theorem acB {st:St} (h:Q .ret st):SQ Q .ret st:=⟨fun _=>Exit.noConfusion,h⟩
end
theorem Dm.ai6 {outs:List Code} {st k:Nat} {c:Code} {e:Exit} (h:st=k+2) (hc:outs[k]? =some c) (ho:JX c=true) (he:e=K8 c):Dm outs st e:=he ▸ Dm.out h hc ho
theorem QL {α:Type} (n i:Nat):at' (List.replicate n ([]:List α)) i=[]:=by
 unfold at'
 by_cases h:i<n
 ·simp [List.getElem?_replicate,h]
 ·simp [List.getElem?_replicate,h];rfl
theorem QA {α:Type} (n i e sz a b:Nat) (f g:Nat→Nat→DV):Tp (.sl (some false) a b f) (.row e sz (at' (List.replicate n ([]:List α)) i).length g):=⟨by rw [QL];rfl,_,_,_,rfl⟩
theorem rR (k:IntKind) (i:Int):Ht (.one (.d (.int k i))):=fun _ _ _ _ _ _ _ h=>h
def NE:List CV→Bool
 |[]=>true
 | .d (.int _ _)::l=>NE l
 |_=>false
theorem Ws: ∀{cs:List CV} (_:NE cs=true) {ρ ρ':Nat→Option Pl} {F F':Nat→Prop} {w w':World} {vs:List Value},dD ρ F w cs vs→dD ρ' F' w' cs vs
 |[],_,_,_,_,_,_,_,[],_=>trivial
 |[],_,_,_,_,_,_,_,_::_,h=>h.elim
 | .d (.int _ _)::l,hp,_,_,_,_,_,_,v::vs,⟨h1,h2⟩=> ⟨h1,Ws (cs:=l) hp h2⟩
 | .d (.int _ _)::l,_,_,_,_,_,_,_,[],h=>h.elim
theorem SA {cs:List CV} (h:NE cs=true):Ht (.agg cs):=fun _ _ _ _ _ _ _ ⟨vs,e,hr⟩=> ⟨vs,e,Ws h hr⟩
theorem cN {b n m:Nat} (h:n=m:=by first|rfl|simp only [List.length_set,List.length_append,List.length_cons,List.length_nil,List.length_replicate,List.length_drop]):eD (.own b true n) (.own b false m):=by
 subst h
 rintro ρ F w v (h|⟨h,_⟩)
 ·exact .inl h
 ·cases h
end Sg
