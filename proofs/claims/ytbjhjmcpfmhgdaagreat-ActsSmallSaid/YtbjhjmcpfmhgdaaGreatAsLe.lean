import Derived.Test.YtbjhjmcpfmhgdaaGreatAsLd
import Derived.Shelf.Slices.Delete
import Derived.Shelf.Slices.Empties
set_option linter.all false
namespace Sg
open Go Go.Sort Go.Proofs Go.Shelf
variable {P:Program}
def IS.dn (b:Nat):IS where
 act st:=match get st.heap b with|none=>[.b true]|some _=>[.b false]
 want _:=[.b true]
 nxt st:=⟨st.slots,(b,none)::st.heap⟩
 ok B N L st hs:=by
  split at hs
  ·rename_i h1
   intro a w hc
   obtain⟨⟨ρ,F,hfr,⟨ft,hi⟩,hs,dn⟩,hid,sz⟩:=hc
   have hu: ∀x,aT ((b,none)::st.heap) x=if b=x then some none else aT st.heap x:=fun x=>aF _ _ _ _
   have ho: ∀x ob,aT ((b,none)::st.heap) x=some (some ob)→aT st.heap x=some (some ob):=fun x ob hh=>by
    rw [hu]at hh
    split at hh
    ·cases hh
    ·exact hh
   refine⟨⟨ρ,F,hfr,⟨ft,fun x ob hh=>hi.obj x ob (ho x ob hh),fun x ob k hh=>hi.blk x ob k (ho x ob hh),fun x y o1 o2 k h1 h2=>hi.dis x y o1 o2 k (ho _ _ h1) (ho _ _ h2),fun x hh=> ?_,hi.gl⟩,hs,dn⟩,hid,sz⟩
   rw [hu]at hh
   split at hh
   ·cases hh
   ·exact hi.fresh x hh
  ·simp at hs
theorem Zo {b x y v:Bool} (h1:x=v) (h2:y=v):(bif b then x else y)=v:=by cases b<;>assumption
def Ww (P:Program) (f:FuncId) (args:List SV) (hin hout:List (Nat × Option Ob)):Prop:=
 Enters P f∧ ∀(B:Base) (vs:List Value),(∀k,B.F k→k<B.w.heap.size)→HI B B.ρ B.F B.w (aT hin)→dS B.ρ B.F B.w args vs→
  CallsDIn Fence.wide 0 P f vs.toArray .returning B.w fun e u' w'=>u'= .returning∧ ∃v,e= .returned v∧Post B (.dL []) hout v w'
section
variable {P:Program} {T:List (Nat × TI)}
theorem Pq (hT:mI P T) {f:Nat} {fn:Func} {c:Code} {args:List SV} {hin hout:List (Nat × Option Ob)} (hf:P.funcs[f]? =some fn) (hb:fn.body=some c) (hn:(fn.name== "runtime.NumGoroutine")=false) (hr0:fn.results.toList=[])
  (h: ∀B,lY none P B (args.length+(fn.ntmps - args.length)) (hin.map (·.1)) c (D6 T fn.results.toList (.dL []) hout) ⟨slotsOf 0 args,hin⟩):Ww P f args hin hout:=by
 refine⟨⟨fn,hf,hn,by rw [hb];rfl⟩,fun B0 vs hF hi hr=> ?_⟩
 have hl:=hr.length
 obtain⟨B,hBe⟩: ∃B,B=B0.up:=⟨_,rfl⟩
 have hF: ∀k,B.F k→k<B.w.heap.size:=by rw [hBe];exact hF
 have hi:HI B B.ρ B.F B.w (aT hin):=by rw [hBe];exact hi.up
 have hr:dS B.ρ B.F B.w args vs:=by rw [hBe];exact hr
 have hmk:B.mb=B.w.heap.size:=by rw [hBe];rfl
 have dnF: ∀{ρ F w},Fr B ρ F w→Fr B0 ρ F w:=by rw [hBe];exact Fr.dn
 have dnH: ∀{ρ F w h},HI B ρ F w h→HI B0 ρ F w h:=by rw [hBe];exact HI.dn
 rw [show B0.w=B.w by rw [hBe];rfl]
 have hwp:=h B {tmps:=vs.toArray++Array.replicate (fn.ntmps - vs.toArray.size) undef,defers:=[] } B.w
  ⟨⟨B.ρ,B.F,⟨rfl,rfl, .refl _,Nat.le_refl _,fun _ _ _=>rfl,fun _ _ h=>h,fun k hk=> ⟨hF k hk, .inl hk⟩,fun _ h=>h⟩,hi,fun t tv ht=>by
   obtain⟨_,v,hv,hr'⟩:=tV hr t tv ht
   refine⟨v, ?_,hr'⟩
   rw [Nat.sub_zero]at hv
   have hlt:t<vs.length:=by
    rcases Nat.lt_or_ge t vs.length with h|h
    ·exact h
    ·rw [List.getElem?_eq_none h]at hv;cases hv
   rw [Array.getElem?_append_left (by simpa using hlt)]
   simpa using hv,Marks.none (Nat.le_of_eq hmk) (by rw [hBe];rfl)⟩,(fun b p hbp=>by
   apply Classical.byContradiction
   intro hnm
   have:=hi.fresh b (bQ hnm)
   rw [this]at hbp;cases hbp),by simp [hl]⟩
 refine⟨trivial,fun c₀ cs hu hroom=> ?_⟩
 let b:Frame:={(default:Frame)with fn:=f,kind:= .deferred,roundOf:=none}
 have henter:Frame.enter P f vs.toArray .deferred=
   b.atR {tmps:=vs.toArray++Array.replicate (fn.ntmps - vs.toArray.size) undef,defers:=[] } [.code c]:=by
  simp [Frame.enter,Frame.atR,hf,hb,b]
 have hc:({c₀ with mode:= .returning}:Frame)=c₀:=by cases c₀;cases hu;rfl
 obtain⟨e,a',w',⟨st',⟨he,_,h4⟩,hconc⟩,harr⟩:=hwp b [] (c₀::cs) rfl trivial hroom
 rw [←henter]at harr
 obtain⟨⟨ρ',F',hfr,hhi,hs,dn⟩,_,_⟩:=hconc
 have key: ∀(ds:List Deferred) (F:Nat→Prop) (w:World),Known B st' a'.tmps F ρ' w ds→ ∀fr:Frame,fr.mode= .returning→fr.defers=ds→fr.fn=f→fr.kind= .deferred→
   ∃w2 fr2,(∃v,(results fn fr.tmps).run P w2= .ok v w2∧Post B0 (.dL []) hout v w2)∧StepsIn (Machine.fenced P Fence.wide) P (lone fr (c₀::cs) w) (lone fr2 (c₀::cs) w2)∧fr2.mode= .returning∧fr2.defers=[]∧fr2.fn=f∧fr2.kind= .deferred∧fr2.tmps=fr.tmps:=by
  intro ds
  induction ds with
  |nil=>
   intro F w hk fr q1 q2 q3 q4
   refine⟨w,fr,⟨.tuple #[], ?_,ρ',F,dnF hk.fr,dnH (hk.hi.le h4),[],rfl,trivial⟩, .refl _,q1,q2,q3,q4,rfl⟩
   rw [Bp,Sem.run_bind,Array.mapM_eq_mapM_toList,Sem.run_map,hr0]
   simp
  |cons d ds ih=>
   intro F w hk fr q1 q2 q3 q4
   obtain⟨D,w2,F2,x1,x2,x3⟩:=wW (P:=P) hk
   have h1:=step_collected (cs:=c₀::cs) (by rw [q1];simp) q2 x1 x2
   have i1:(lone fr (c₀::cs) w).fenced P Fence.wide:=fenced_out (n:=0) trivial hroom (by rw [q1];simp) q2 (fun g hg=>by rw [x1]at hg;simp [Target.leads]at hg)
   obtain⟨w3,fr3,r1,r2,r3,r4,r5,r6,r7⟩:=ih F2 w2 x3 {fr with defers:=[]++ds} q1 rfl q3 q4
   exact⟨w3,fr3,by rw [show fr.tmps=({fr with defers:=[]++ds}:Frame).tmps from rfl];exact r1, .head i1 h1 r2,r3,r4,r5,r6,r7⟩
 have fin: ∀fr:Frame,fr.mode= .returning→fr.defers=a'.defers→fr.fn=f→fr.kind= .deferred→StepsIn (Machine.fenced P Fence.wide) P (lone (Frame.enter P f vs.toArray .deferred) (c₀::cs) B.w) (lone fr (c₀::cs) w')→
   ∃e u' w' fr,(u'=FrameMode.returning∧ ∃v,e= .returned v∧Post B0 (.dL []) hout v w')∧ComesIn (Machine.fenced P Fence.wide) P (lone (Frame.enter P f vs.toArray .deferred) (c₀::cs) B.w) (lone fr ({c₀ with mode:=u'}::cs) w') e∧fr.kind= .deferred∧fr.fn=f∧fr.going P w' e:=fun fr q1 q2 q3 q4 hst=>by
  obtain⟨w2,fr2,⟨v,hv,hp⟩,r2,r3,r4,r5,r6,r7⟩:=key a'.defers F' w' ⟨hfr,hhi,hs,dn,hmk,hF,by rw [hBe];rfl⟩ fr q1 q2 q3 q4
  refine⟨.returned v, .returning,w2,fr2,⟨rfl,v,rfl,hp⟩, ?_,r6,r5,r3,r4,fn,by rw [r5];exact hf,by rw [r7];exact hv⟩
  rw [hc]
  exact StepsIn.trans hst r2
 rcases he with rfl|rfl
 ·exact fin {b.atR a' []with mode:= .returning} rfl rfl rfl rfl (StepsIn.trans harr (.one (fenced_calm (n:=0) (fr:=b.atR a' []) trivial hroom rfl) (stepR_end rfl)))
 ·obtain⟨todo,hs⟩:=harr.1 rfl
  exact fin {b.atR a' todo with mode:= .returning} rfl rfl rfl rfl hs
structure PV (P:Program) (f:Nat) (args:List SV) (hin:List (Nat × Option Ob)) {R:Type} (hout:R→List (Nat × Option Ob)) (o:Option R):Prop where
 run: ∀{r:R},o=some r→Ww P f args hin (hout r)
theorem Ww.GD {f:FuncId} {args:List SV} {hin hout:List (Nat × Option Ob)} (l:List (Nat × Nat)) (h:Ww P f args hin hout):Ww P f (args.map (SV.ren (swp l))) (iX (swp l) hin) (iX (swp l) hout):=by
 have r:=EB l
 refine⟨h.1,fun B vs hF hi hr=> ?_⟩
 refine(h.2 {B with ρ:=fun x=>B.ρ (swp l x)} vs hF ((Df r).1 hi) (qJ (σ:=swp l).1 hr)).mono ?_
 rintro e u' w' ⟨rfl,v,rfl,ρ',F',hf,g1,g2⟩
 refine⟨rfl,v,rfl,fun x=>ρ' (vS l x),F', ?_, ?_, ?_⟩
 ·refine⟨hf.os,hf.tape,hf.output,hf.size,hf.mem,fun b p hb=>hf.rho (vS l b) p ?_,hf.fz,hf.bf⟩
  show B.ρ (swp l (vS l b))=some p
  rw [r.st];exact hb
 ·refine(Df (ρ0:=fun x=>B.ρ (swp l x)) r).2 ?_
  have:(fun x=>(fun x=>ρ' (vS l x)) (swp l x))=ρ':=by funext x;simp [r.ts]
  rw [this];exact g1
 ·obtain⟨us,e1,e2⟩:=g2
  match us,e2 with
  |[],_=>exact⟨[],e1,trivial⟩
theorem rkD {f:Nat} {args:List SV} {hin:List (Nat × Option Ob)} {R:Type} {hout:R→List (Nat × Option Ob)} {o:Option R} (l:List (Nat × Nat)) (h:PV P f args hin hout o):
  PV P f (args.map (SV.ren (swp l))) (iX (swp l) hin) (fun r=>iX (swp l) (hout r)) o:=⟨fun hr=>(h.run hr).GD l⟩
theorem scD (hT:mI P T) (hm:P.follows .mixedOrders=true) {f:Nat} {fn:Func} {args:List SV} {hin:List (Nat × Option Ob)} {R:Type} {hout:R→List (Nat × Option Ob)} {o:Option R} (hf:P.funcs[f]? =some fn) (s:Sc R)
  (hb:fn.body=some (kS fn):=by kernel_rfl) (hn:(fn.name== "runtime.NumGoroutine")=false:=by kernel_rfl) (hr0:fn.results.toList=[]:=by kernel_rfl)
  (hs:(tr true P T (args.length+(fn.ntmps - args.length)) s (hin.map (·.1)) (go FU (.c (kS fn)) []) ⟨slotsOf 0 args,hin⟩ [] [] (.fn T fn.results.toList (fun _=> .dL []) hout)).side true=(tr true P T (args.length+(fn.ntmps - args.length)) s (hin.map (·.1)) (go FU (.c (kS fn)) []) ⟨slotsOf 0 args,hin⟩ [] [] (.fn T fn.results.toList (fun _=> .dL []) hout)).side false:=by kernel_rfl)
  (hd:(tr true P T (args.length+(fn.ntmps - args.length)) s (hin.map (·.1)) (go FU (.c (kS fn)) []) ⟨slotsOf 0 args,hin⟩ [] [] (.fn T fn.results.toList (fun _=> .dL []) hout)).den=o:=by kernel_rfl):PV P f args hin hout o:=by
 refine⟨fun{r} hr=> ?_⟩
 refine Pq hT hf hb hn hr0 fun B=> ?_
 have h:=go_ok (n:=FU) (x:= .c (kS fn)) (K:=[]) (Ey (rd:=none) (q:=true) (B:=B) (fun _=>rfl) hT hm s (Tr.oM hs) trivial (hd.trans hr))
 refine lq (fB h fun e st hq=> ?_)
 exact hq
end
def WL (ops:Array Oper):Option (Nat × Nat × List Operand):=match ops.toList with
 |[⟨some t, .makeFunc (.func g) first caps,_,_,_,none⟩,⟨none, .defer c,_,_,_,none⟩]=>match c.callee,first.toList,c.args.toList with
  | .value (.tmp t'),[],[]=>bif Nat.beq t' t then some (t,g,caps.toList)else none
  |_,_,_=>none
 |_=>none
theorem U8 {ops:Array Oper} {t g:Nat} {l:List Operand} (h:WL ops=some (t,g,l)): ∃o1 o2 caps c,ops.toList=[o1,o2]∧o1.dst=some t∧o1.op= .makeFunc (.func g) #[] caps∧caps.toList=l∧o1.guard=none∧
  o2.dst=none∧o2.op= .defer c∧c.callee= .value (.tmp t)∧c.args= #[]∧o2.guard=none:=by
 unfold WL at h
 split at h
 ·rename_i t1 g1 first caps _ _ _ c _ _ _ e
  split at h
  ·rename_i t' e1 e2 e3
   cases hb:Nat.beq t' t1 with
   |false=>rw [hb]at h;cases h
   |true=>
    rw [hb]at h
    cases h
    rw [Nat.eq_of_beq_eq_true hb]at e1
    refine⟨_,_,caps,c,e,rfl, ?_,rfl,rfl,rfl,rfl,e1, ?_,rfl⟩
    ·rw [show first= #[]from Array.toList_inj.1 e2]
    ·exact Array.toList_inj.1 e3
  ·cases h
 ·cases h
def JO:Nat→Code→Option (List Code × Nat × Array Oper × Code)
 |0,_=>none
 |n+1,c=>match c with
  | .seq (.region i ops false) k=>match WL ops with
   |some _=>some ([],i,ops,k)
   |none=>match JO n k with|some (cs,x)=>some (.region i ops false::cs,x)|none=>none
  | .seq a k=>match JO n k with|some (cs,x)=>some (a::cs,x)|none=>none
  |_=>none
def YV:List Code→Code→Code
 |[],x=>x
 |c::cs,x=> .seq c (YV cs x)
theorem EG: ∀{n:Nat} {c:Code} {cs:List Code} {i:Nat} {ops:Array Oper} {k:Code},JO n c=some (cs,i,ops,k)→c=YV cs (.seq (.region i ops false) k)
 |0,_,_,_,_,_,h=>by cases h
 |n+1,c,cs,i,ops,k,h=>by
  unfold JO at h
  split at h
  ·split at h
   ·cases h;rfl
   ·split at h
    ·rename_i e;cases h;rw [EG e];rfl
    ·cases h
  ·split at h
   ·rename_i e;cases h;rw [EG e];rfl
   ·cases h
  ·cases h
def GU (st:St):List Operand→Option (List CV)
 |[]=>some []
 | .tmp t::l=>match get st.slots t,GU st l with
  |some (.v (.one c)),some cs=>some (c::cs)
  |_,_=>none
 |_::_=>none
theorem G9 {st:St} {a:Act} {ρ:Nat→Option Pl} {F:Nat→Prop} {w:World} (hs: ∀t tv,get st.slots t=some tv→ ∃v,a.tmps[t]? =some v∧bC ρ F w tv v): ∀{l:List Operand} {cs:List CV},GU st l=some cs→eH ρ F w (cs.map fun c=> .v (.one c)) (l.map a.eval)
 |[],cs,h=>by cases h;trivial
 | .tmp t::l,cs,h=>by
  unfold GU at h
  split at h
  ·rename_i c cs' e1 e2
   cases h
   obtain⟨v,hv,hr⟩:=hs t _ e1
   refine⟨?_,G9 hs e2⟩
   rw [show a.eval (.tmp t)=v by simp [Act.eval,hv]]
   exact hr
  ·cases h
 | .const _::_,_,h=>by cases h
 | .func _::_,_,h=>by cases h
 | .global _::_,_,h=>by cases h
section
variable {P:Program} {T:List (Nat × TI)} {B:Base} {N:Nat} {L:List Nat}
theorem oQ {rd:Option Nat} {Q:Exit→St→Prop} {e:Exit} {st:St} (he:e≠ .normal): ∀{cs:List Code},post rd P B N L (cs.map .sq) Q e st→Q e st
 |[],h=>h
 |_::cs,h=>by
  cases e with
  |normal=>exact absurd rfl he
  |exit i=>exact oQ (cs:=cs) he h
  |goto l=>exact oQ (cs:=cs) he h
  |ret=>exact oQ (cs:=cs) he h
  |panic c=>exact oQ (cs:=cs) he h
  |outgrown=>exact oQ (cs:=cs) he h
theorem J2 {rd:Option Nat} {s1:St} {X:Code} {R:Exit→Act→World→Prop}: ∀{cs:List Code} {c:Code} {st:St} {a:Act} {w:World},lY rd P B N L c (post rd P B N L (cs.map .sq) (QI B N L (fun e st=>e= .normal∧st=s1))) st→
  Conc B N L st a w→(∀a' w',Conc B N L s1 a' w'→X.wpIn (FW rd) 0 P R a' w')→(YV (c::cs) X).wpIn (FW rd) 0 P R a w
 |[],c,st,a,w,h,hc,hX=>wpIn_seq (wpIn_mono (h a w hc) fun e a' w' ⟨st',⟨s',himp,h1,h2⟩,hc'⟩=>by
   subst h1;subst h2;exact hX a' w' (himp a' w' hc'))
 |c2::cs,c,st,a,w,h,hc,hX=>wpIn_seq (wpIn_mono (h a w hc) fun e a' w' ⟨st',hq,hc'⟩=>by
   cases e with
   |normal=>exact J2 (cs:=cs) hq hc' hX
   |exit i=>obtain⟨_,_,h1,_⟩:=oQ (cs:=c2::cs) (by simp) hq;cases h1
   |goto l=>obtain⟨_,_,h1,_⟩:=oQ (cs:=c2::cs) (by simp) hq;cases h1
   |ret=>obtain⟨_,_,h1,_⟩:=oQ (cs:=c2::cs) (by simp) hq;cases h1
   |panic c=>obtain⟨_,_,h1,_⟩:=oQ (cs:=c2::cs) (by simp) hq;cases h1
   |outgrown=>obtain⟨_,_,h1,_⟩:=oQ (cs:=c2::cs) (by simp) hq;cases h1)
theorem Ps {i t g:Nat} {ops:Array Oper} {l:List Operand} (hi:WL ops=some (t,g,l)) {a:Act} {w:World} (ht:t<a.tmps.size) {Q:Exit→Act→World→Prop}
  (hQ:Q .normal {(a.put (some t) (.func (.func g) #[] (l.map a.eval).toArray))with defers:={target:= .fn (.func g) (l.map a.eval).toArray,args:= #[] }::a.defers} w):(Code.region i ops false).wpIn (FW none) 0 P Q a w:=by
 obtain⟨o1,o2,caps,c,h1,h2,h3,h4,h5,h6,h7,h8,h9,h10⟩:=U8 hi
 have hsz:ops.size=2:=by rw [←Array.length_toList,h1];rfl
 have g0:ops[0]? =some o1:=by rw [←Array.getElem?_toList,h1];rfl
 have g1:ops[1]? =some o2:=by rw [←Array.getElem?_toList,h1];rfl
 refine wpIn_region ?_
 rw [hsz,show List.range 2=[0,1]from rfl]
 have hv:(.func (.func g) (#[].map a.eval) (caps.map a.eval):Value)= .func (.func g) #[] (l.map a.eval).toArray:=by
  have e:caps.map a.eval=(caps.toList.map a.eval).toArray:=Array.toList_inj.1 (by simp)
  rw [e,←h4,Array.map_empty]
 have e1:(execOp a.eval o1).run P w= .ok (.value (.func (.func g) #[] (l.map a.eval).toArray)) w:=by
  simp only [execOp,h3,Instr.makeFunc]
  rw [←hv];rfl
 rw [wpOpsIn_cons]
 unfold wpOpIn
 simp only [g0]
 rw [if_pos (by simp [Region.wanted,h5])]
 refine⟨fun _ _=>trivial, ?_⟩
 rw [show o1.semAt (FW none).round a.eval=execOp a.eval o1 from rfl,e1,Oper.uponIn_value,wpOpsIn_cons]
 unfold wpOpIn
 simp only [g1]
 rw [if_pos (by simp [Region.wanted,h10])]
 refine⟨fun _ _=>trivial, ?_⟩
 rw [show∀a:Act,o2.semAt (FW none).round a.eval=execOp a.eval o2 from fun _=>rfl,h2]
 have ev:(a.put (some t) (.func (.func g) #[] (l.map a.eval).toArray)).eval (.tmp t)= .func (.func g) #[] (l.map a.eval).toArray:=by
  simp [Act.eval,Act.put,ht]
 have e2:(execOp (a.put (some t) (.func (.func g) #[] (l.map a.eval).toArray)).eval o2).run P w= .ok (.defer {target:= .fn (.func g) (l.map a.eval).toArray,args:= #[] }) w:=by
  simp only [execOp,h7,Go.resolve,h8,h9,ev,Deferred.ofValue]
  simp
 rw [e2,Oper.uponIn_defer,h6]
 exact hQ
def Base.re (B:Base) (w:World) (ρ:Nat→Option Pl) (F:Nat→Prop) (D:List Deferred):Base:=⟨w,ρ,F,fun k=> ¬ F k∧(B.Ft k∨B.w.heap.size≤k),w.heap.size,D⟩
theorem HI.re {w:World} {ρ:Nat→Option Pl} {F:Nat→Prop} {h:Hp} (D:List Deferred) (hi:HI B ρ F w h):HI (B.re w ρ F D) ρ F w h:=by
 obtain⟨ft,hi⟩:=hi
 exact⟨ft,hi.obj,fun b ob k hb hk=> ⟨(hi.blk b ob k hb hk).1,(hi.blk b ob k hb hk).2.1, .inl ⟨(hi.blk b ob k hb hk).2.1,(hi.blk b ob k hb hk).2.2⟩⟩,hi.dis,hi.fresh,hi.gl⟩
theorem Fr.Vs {w w':World} {ρ ρ':Nat→Option Pl} {F F':Nat→Prop} {D:List Deferred} (f:Fr B ρ F w) (f':Fr (B.re w ρ F D) ρ' F' w'):Fr B ρ' F' w' where
 os:=f'.os.trans f.os
 tape:=f'.tape.trans f.tape
 output:=f'.output.trans f.output
 size:=Nat.le_trans f.size f'.size
 mem:=fun k hk hn=>(f'.mem k (Nat.lt_of_lt_of_le hk f.size) fun⟨_,h⟩=>h.elim hn fun h=>by omega).trans (f.mem k hk hn)
 rho:=fun b p h=>f'.rho b p (f.rho b p h)
 fz:=fun k hk=> ⟨(f'.fz k hk).1,by
  rcases(f'.fz k hk).2 with h|h|h
  ·exact(f.fz k h).2
  ·exact .inr h.2
  ·exact .inr (.inr (Nat.le_trans f.size h))⟩
 bf:=fun k h=>f'.bf k (f.bf k h)
theorem HI.Vs {w w':World} {ρ ρ':Nat→Option Pl} {F F':Nat→Prop} {h:Hp} {D:List Deferred} (f:Fr B ρ F w) (hi:HI (B.re w ρ F D) ρ' F' w' h):HI B ρ' F' w' h:=by
 obtain⟨ft,hi⟩:=hi
 refine⟨ft,hi.obj,fun b ob k hb hk=> ⟨(hi.blk b ob k hb hk).1,(hi.blk b ob k hb hk).2.1, ?_⟩,hi.dis,hi.fresh,hi.gl⟩
 rcases(hi.blk b ob k hb hk).2.2 with h|h
 ·exact h.2
 ·exact .inr (Nat.le_trans f.size h)
theorem Un {st:St} {a:Act} {w:World} {ρ:Nat→Option Pl} {F:Nat→Prop} {t:Nat} {fv:Value} (D:Deferred) (hi:HI B ρ F w (aT st.heap)) (fr:Fr B ρ F w) (hs: ∀t tv,get st.slots t=some tv→ ∃v,a.tmps[t]? =some v∧bC ρ F w tv v) (sz:a.tmps.size=N) (ht:get st.slots t=none):
  Conc (B.re w ρ F (D::a.defers)) N (st.heap.map (·.1)) st {(a.put (some t) fv)with defers:=D::a.defers} w:=by
 refine⟨⟨ρ,F,⟨rfl,rfl, .refl _,Nat.le_refl _,fun _ _ _=>rfl,fun _ _ h=>h,fun k hk=> ⟨(fr.fz k hk).1, .inl hk⟩,fun _ h=>h⟩,hi.re _,fun t' tv ht'=> ?_,Nat.le_refl _,[],rfl,List.nodup_nil,fun _ h=>by simp at h⟩,fun b p hbp=> ?_,by simp [Act.put,sz]⟩
 ·obtain⟨v,hv,hr⟩:=hs t' tv ht'
  refine⟨v, ?_,hr⟩
  have hne:t≠t':=fun e=>by subst e;rw [ht]at ht';cases ht'
  simp only [Act.put]
  rw [Array.getElem?_setIfInBounds_ne hne]
  exact hv
 ·apply Classical.byContradiction
  intro hnm
  have:=hi.fresh b (bQ hnm)
  have hbp:ρ b=some p:=hbp
  rw [this]at hbp;cases hbp
theorem eH.ZX {ρ ρ':Nat→Option Pl} {F F':Nat→Prop} {w w':World} (g:Gr ρ F w ρ' F' w'): ∀{xs:List TV} {vs:List Value},eH ρ F w xs vs→eH ρ' F' w' xs vs
 |[],[],_=>trivial
 |_::_,_::_,⟨h1,h2⟩=> ⟨h1.gr g,eH.ZX g h2⟩
 |[],_::_,h=>h.elim
 |_::_,[],h=>h.elim
theorem Ot (hT:mI P T) {B0:Base} {fn:Func} {st:St} {res:TV} {hout:List (Nat × Option Ob)} {e:Exit} (hB:B=B0.up) (hF: ∀k,B.F k→k<B.w.heap.size) {a:Act} {w:World} (hc:Conc B N L st a w) (hq:D6 T fn.results.toList res hout e st):
  LeavesInM Fence.wide 0 P fn a.tmps (fun e w'=> ∃v ρ' F',e= .returned v∧Fr B0 ρ' F' w'∧HI B0 ρ' F' w' (aT hout)∧bC ρ' F' w' res v) a.defers .returning w:=by
 have dnF: ∀{ρ F w},Fr B ρ F w→Fr B0 ρ F w:=by rw [hB];exact Fr.dn
 have dnH: ∀{ρ F w h},HI B ρ F w h→HI B0 ρ F w h:=by rw [hB];exact HI.dn
 obtain⟨_,⟨p,l,h1,h2,h3⟩,h4⟩:=hq
 obtain⟨⟨ρ',F',hfr,hhi,hs,dn⟩,_,_⟩:=hc
 have key: ∀(ds:List Deferred) (F:Nat→Prop) (w:World),Known B st a.tmps F ρ' w ds→LeavesInM Fence.wide 0 P fn a.tmps (fun e w'=> ∃v ρ' F',e= .returned v∧Fr B0 ρ' F' w'∧HI B0 ρ' F' w' (aT hout)∧bC ρ' F' w' res v) ds .returning w:=by
  intro ds
  induction ds with
  |nil=>
   intro F w hk
   obtain⟨us,g1,g2⟩:=Fh hT hk.hi hk.sl h1 h2
   have hres: ∃v,(results fn a.tmps).run P w= .ok v w∧bC ρ' F w (JK l) v:=by
    refine⟨if h:us.length=1 then us[0]else .tuple us.toArray, ?_, ?_⟩
    ·rw [Bp,Sem.run_bind,Array.mapM_eq_mapM_toList,Sem.run_map,g1]
     simp
    ·have hlen:=g2.length
     match l,us,g2,hlen with
     |[],[],_,_=>exact⟨[],rfl,trivial⟩
     |[s],[u],g2,_=>exact g2.1
     |s1::s2::l,u1::u2::us,g2,_=>exact⟨u1::u2::us,by simp,g2⟩
   obtain⟨v,hv,hr⟩:=hres
   exact⟨v,hv,v,ρ',F,rfl,dnF hk.fr,dnH (hk.hi.le h4),h3 _ _ _ _ hr⟩
  |cons d ds ih=>
   intro F w hk
   obtain⟨D,w2,F2,x1,x2,x3⟩:=wW (P:=P) hk
   exact⟨by simp, .inl ⟨D,w2,x1,x2,ih F2 w2 x3⟩⟩
 exact key a.defers F' w ⟨hfr,hhi,hs,dn,by rw [hB];rfl,hF,by rw [hB];rfl⟩
theorem DK {st:St} {fn:Func} {R:Ending→World→Prop} {tmps:Array Value} {ρ:Nat→Option Pl} {rest:List Deferred} (hB:B.df=[]): ∀{ds:List Deferred} {F:Nat→Prop} {w:World},Known B st tmps F ρ w ds→
  (∀F' w',Known B st tmps F' ρ w' []→LeavesInM Fence.wide 0 P fn tmps R rest .returning w')→LeavesInM Fence.wide 0 P fn tmps R (ds++rest) .returning w
 |[],F,w,hk,h=>h F w hk
 |d::ds,F,w,hk,h=>by
  obtain⟨D,w2,F2,x1,x2,x3⟩:=wW (P:=P) hk
  exact⟨by simp, .inl ⟨D,w2,x1,x2,DK hB x3 h⟩⟩
theorem RG (l m:List (Nat × Option Ob)):upd (aT m) l=aT (l++m):=by
 funext b
 show(match get l b with|some o=>some o|none=>get m b)=get (l++m) b
 rw [get_append]
 cases get l b<;>rfl
theorem Qj (hT:mI P T) {B0:Base} {fn:Func} {st1 st2:St} {res:TV} {hout:List (Nat × Option Ob)} (hB:B=B0.up) (hF: ∀k,B.F k→k<B.w.heap.size) {L0:List Nat} {w a2 w2} {ρ:Nat→Option Pl} {F:Nat→Prop} {M:List Deferred} {g:Nat} {vs:List Value} {cvs:List CV}
  (fr:Fr B ρ F w) (hi:HI B ρ F w (aT st1.heap)) (hM:Marks B F w M) (hv:eH ρ F w (cvs.map fun c=> .v (.one c)) vs) (hid: ∀b p,B.ρ b=some p→b∈L0)
  (hc:Conc (B.re w ρ F ({target:= .fn (.func g) vs.toArray,args:= #[] }::M)) N L st2 a2 w2)
  {t4:Nat} {r4:TV} (h4:get st2.slots t4=some r4) {hin hd hp:List (Nat × Option Ob)} (hp2:oL st2.heap hp)
  (hzip:bW (hin.map (·.1)) ((hin.map (·.1)++hd.map (·.1)).map (aT hp))=some hin)
  (hb:(aN ((cvs.map SV.one).flatMap SV.aI) (hin.map (·.1)) && aN (gD (((hin.map (·.1)++hd.map (·.1)).map (aT hp)).take (hin.map (·.1)).length)) (hin.map (·.1)) && iN (hin.map (·.1)) (hd.map (·.1)) (((hin.map (·.1)++hd.map (·.1)).map (aT hp)).drop (hin.map (·.1)).length))=true)
  (hD:Ww P g (cvs.map .one) hin hd) (hend:QI B N L0 (D6 T fn.results.toList res hout) .ret ⟨[(t4,r4)],hd++((hin.map (·.1)).map (fun i=>(i,none))++hp)⟩):
  LeavesInM Fence.wide 0 P fn a2.tmps (fun e w'=> ∃v ρ' F',e= .returned v∧Fr B0 ρ' F' w'∧HI B0 ρ' F' w' (aT hout)∧bC ρ' F' w' res v) a2.defers .returning w2:=by
 obtain⟨⟨ρ2,F2,fr2,hi2,hs2,dn2⟩,hid2,sz2⟩:=hc
 obtain⟨hm0,Ds,hds,hnd,hDs⟩:=dn2
 rw [hds]
 obtain⟨Bz,hz⟩: ∃Bz:Base,Bz=B.re w ρ F []:=⟨_,rfl⟩
 have frz:Fr Bz ρ2 F2 w2:=by rw [hz];exact⟨fr2.os,fr2.tape,fr2.output,fr2.size,fr2.mem,fr2.rho,fr2.fz,fr2.bf⟩
 have hiz:HI Bz ρ2 F2 w2 (aT st2.heap):=by
  obtain⟨ft,hi2⟩:=hi2
  rw [hz];exact⟨ft,hi2.obj,hi2.blk,hi2.dis,hi2.fresh,hi2.gl⟩
 refine DK (B:=Bz) (st:=⟨st2.slots,hp⟩) (ρ:=ρ2) (by rw [hz];rfl) (F:=F2) ⟨frz,hiz.le hp2,hs2,⟨by rw [hz];exact Nat.le_refl _,Ds,by rw [hz];simp [Base.re],hnd,fun D hD=>by rw [hz];exact hDs D hD⟩,by rw [hz];rfl,fun k hk=>by rw [hz]at hk ⊢;exact(fr.fz k hk).1,by rw [hz];rfl⟩ ?_
 intro F3 w3 hk
 have gv:eH ρ2 F3 w3 (cvs.map fun c=> .v (.one c)) vs:=by
  have fr3:=hk.fr
  rw [hz]at fr3
  have g:Gr ρ F w ρ2 F3 w3:=⟨fr3.rho,fr3.bf,fun k hk=>fr3.mem k (fr.fz k hk).1 fun h=>h.1 hk⟩
  exact eH.ZX g hv
 have hargs:jM (cvs.map fun c=>(TV.v (.one c)))=some (cvs.map .one):=by
  clear hD hb hv gv
  induction cvs with
  |nil=>rfl
  |cons c cs ih=>simp only [List.map_cons,jM,ih]
 refine⟨by simp, .inr ⟨(fun h=>by cases h), .func g,vs.toArray,g,vs.toArray,rfl, ?_,fun _ _=>trivial, ?_⟩⟩
 ·obtain⟨fn',e1,e2,e3⟩:=hD.1
  simp only [invoke,callFunc,Sem.run_bind,run_program,Result.andThen_ok,e1,e2,e3,Bool.false_eq_true,if_false]
  simp
 ·show CallsDIn Fence.wide 0 P g vs.toArray .returning w3 _
  refine(Fq (B:=Bz) (ids:=hin.map (·.1)) (hin:=hin) (hout:=hd) (h:=aT hp) (X:=fun K=>CallsDIn Fence.wide 0 P g vs.toArray .returning w3 fun e u' w'=> ∃v,e=Ending.returned v∧K v w'∧u'=FrameMode.returning) hzip hargs hb rfl hk.fr hk.hi gv (fun B' hw _ hF' hi' hxs K hK=>by
     subst hw
     refine(hD.2 B' vs hF' hi' hxs).mono ?_
     rintro e u' w' ⟨rfl,v,rfl,hp⟩
     exact⟨v,rfl,hK v w' hp,rfl⟩) (fun _ w4=>LeavesInM Fence.wide 0 P fn a2.tmps (fun e w'=> ∃v ρ' F',e=Ending.returned v∧Fr B0 ρ' F' w'∧HI B0 ρ' F' w' (aT hout)∧bC ρ' F' w' res v) M FrameMode.returning w4) ?_).mono ?_
  ·intro v ρ4 F4 w4 g4 fr4 hi4 _
   rw [RG,List.append_assoc]at hi4
   have fr4':=fr4
   have hi4':=hi4
   rw [hz]at fr4' hi4'
   obtain⟨s',himp,hq⟩:=hend
   obtain⟨u,hu,hru⟩:=hk.sl t4 r4 h4
   obtain⟨hM0,Ds0,hM1,hM2,hM3⟩:=hM
   have hconc:Conc B N L0 ⟨[(t4,r4)],hd++((hin.map (·.1)).map (fun i=>(i,none))++hp)⟩ {tmps:=a2.tmps,defers:=M} w4:=by
    refine⟨⟨ρ4,F4,fr.Vs fr4',HI.Vs fr hi4',fun t tv ht=> ?_,hM0,Ds0,hM1,hM2,fun D hD=> ?_⟩,hid,sz2⟩
    ·rw [aF]at ht
     split at ht
     ·rename_i e;subst e;cases ht;exact⟨u,hu,hru.gr g4⟩
     ·cases ht
    ·obtain⟨q1,q2,q3⟩:=hM3 D hD
     exact⟨fr4'.bf D q1,q2,by rw [fr4'.mem D (fr.fz D q1).1 fun h=>h.1 q1];exact q3⟩
   exact Ot hT hB hF (himp _ _ hconc) hq
  ·rintro e u' w' ⟨v,rfl,h,rfl⟩
   exact h
end
structure U9 where
 c:Code
 cs:List Code
 i:Nat
 ops:Array Oper
 t:Nat
 g:Nat
 l:List Operand
 k:Code
def YZ (c:Code):Option U9:=match JO 1000 c with
 |some (c1::cs,i,ops,k)=>match WL ops with
  |some (t,g,l)=>some ⟨c1,cs,i,ops,t,g,l,k⟩
  |none=>none
 |_=>none
theorem UX {c:Code} {p:U9} (h:YZ c=some p):c=YV (p.c::p.cs) (.seq (.region p.i p.ops false) p.k)∧WL p.ops=some (p.t,p.g,p.l):=by
 unfold YZ at h
 split at h
 ·rename_i e1
  split at h
  ·rename_i e2;cases h;exact⟨EG e1,e2⟩
  ·cases h
 ·cases h
def dfG (c:Code):U9:=match YZ c with|some p=>p|none=> ⟨.skip,[],0, #[],0,0,[], .skip⟩
def VU:List ResultVar→Option Nat
 |[.cell t _]=>some t
 |_=>none
def UE (p:U9) (N:Nat) (st1:St) (g:Nat) (args:List SV) (hin hd hp:List (Nat × Option Ob)):Bool:=
 match GU st1 p.l,get st1.slots p.t,bW (hin.map (·.1)) ((hin.map (·.1)++hd.map (·.1)).map (aT hp))with
 |some cvs,none,some _=>Nat.beq g p.g && (Nat.blt p.t N && (Nat.beq cvs.length args.length &&
   ((aN ((cvs.map SV.one).flatMap SV.aI) (hin.map (·.1)) && aN (gD (((hin.map (·.1)++hd.map (·.1)).map (aT hp)).take (hin.map (·.1)).length)) (hin.map (·.1)) && iN (hin.map (·.1)) (hd.map (·.1)) (((hin.map (·.1)++hd.map (·.1)).map (aT hp)).drop (hin.map (·.1)).length)))))
 |_,_,_=>false
def Xq (p:U9) (st1:St) (args:List SV) (hin hd hp:List (Nat × Option Ob)):CP:=
 match GU st1 p.l,bW (hin.map (·.1)) ((hin.map (·.1)++hd.map (·.1)).map (aT hp))with
 |some cvs,some h=>[(.st ⟨[(0, .dL (cvs.map .one))],h⟩, .st ⟨[(0, .dL args)],hin⟩)]
 |_,_=>[(.b true, .b false)]
def Zw (p:U9) (N:Nat) (st1:St) (g:Nat) (args:List SV) (hin hd hp:List (Nat × Option Ob)):Prop:=UE p N st1 g args hin hd hp=true∧(Xq p st1 args hin hd hp).ok
section
variable {P:Program} {T:List (Nat × TI)}
theorem Zh (hT:mI P T) (hm:P.follows .mixedOrders=true) {f:Nat} {fn:Func} {args:List SV} {hin:List (Nat × Option Ob)} {R:Type} {res:R→TV} {hout:R→List (Nat × Option Ob)} {o:Option R} (hf:P.funcs[f]? =some fn) {p:U9} {t4:Nat}
  {β γ Y:Type} (s1:Sc β) (T1:Tg β) (s2:β→Sc γ) (r4:TV) (hp:β→γ→List (Nat × Option Ob)) {g:Nat} {cargs:β→γ→List SV} {chin:β→γ→List (Nat × Option Ob)} {chd:β→γ→Y→List (Nat × Option Ob)} {co:β→γ→Option Y}
  (cl: ∀z z2,PV P g (cargs z z2) (chin z z2) (chd z z2) (co z z2)) (s3:β→γ→Y→Sc R)
  (hb:fn.body=some (kS fn)) (hn:(fn.name== "runtime.NumGoroutine")=false) (hdf:YZ (kS fn)=some p) (ht4:VU fn.results.toList=some t4)
  (h1:(tr true P T (args.length+(fn.ntmps - args.length)) s1 (hin.map (·.1)) (go FU (.c p.c) (p.cs.map .sq)) ⟨slotsOf 0 args,hin⟩ [] [] (.jN (T1.at ⟨slotsOf 0 args,hin⟩))).side true=(tr true P T (args.length+(fn.ntmps - args.length)) s1 (hin.map (·.1)) (go FU (.c p.c) (p.cs.map .sq)) ⟨slotsOf 0 args,hin⟩ [] [] (.jN (T1.at ⟨slotsOf 0 args,hin⟩))).side false)
  (h2: ∀z,(tr true P T (args.length+(fn.ntmps - args.length)) (s2 z) ((T1.at ⟨slotsOf 0 args,hin⟩ z).heap.map (·.1)) (go FU (.c p.k) []) (T1.at ⟨slotsOf 0 args,hin⟩ z) [] [] (.fn T [.tmp t4] (fun _=>r4) (hp z))).side true=(tr true P T (args.length+(fn.ntmps - args.length)) (s2 z) ((T1.at ⟨slotsOf 0 args,hin⟩ z).heap.map (·.1)) (go FU (.c p.k) []) (T1.at ⟨slotsOf 0 args,hin⟩ z) [] [] (.fn T [.tmp t4] (fun _=>r4) (hp z))).side false)
  (h3: ∀z z2 y,Zw p (args.length+(fn.ntmps - args.length)) (T1.at ⟨slotsOf 0 args,hin⟩ z) g (cargs z z2) (chin z z2) (chd z z2 y) (hp z z2))
  (h4: ∀z z2 y,(tr true P T (args.length+(fn.ntmps - args.length)) (s3 z z2 y) (hin.map (·.1)) (.fin .ret) ⟨[(t4,r4)],chd z z2 y++(((chin z z2).map (·.1)).map (fun i=>(i,none))++hp z z2)⟩ [] [] (.fn T fn.results.toList res hout)).side true=(tr true P T (args.length+(fn.ntmps - args.length)) (s3 z z2 y) (hin.map (·.1)) (.fin .ret) ⟨[(t4,r4)],chd z z2 y++(((chin z z2).map (·.1)).map (fun i=>(i,none))++hp z z2)⟩ [] [] (.fn T fn.results.toList res hout)).side false)
  (hd:((tr true P T (args.length+(fn.ntmps - args.length)) s1 (hin.map (·.1)) (go FU (.c p.c) (p.cs.map .sq)) ⟨slotsOf 0 args,hin⟩ [] [] (.jN (T1.at ⟨slotsOf 0 args,hin⟩))).den.bind fun z=>
   (tr true P T (args.length+(fn.ntmps - args.length)) (s2 z) ((T1.at ⟨slotsOf 0 args,hin⟩ z).heap.map (·.1)) (go FU (.c p.k) []) (T1.at ⟨slotsOf 0 args,hin⟩ z) [] [] (.fn T [.tmp t4] (fun _=>r4) (hp z))).den.bind fun z2=>
   (co z z2).bind fun y=>(tr true P T (args.length+(fn.ntmps - args.length)) (s3 z z2 y) (hin.map (·.1)) (.fin .ret) ⟨[(t4,r4)],chd z z2 y++(((chin z z2).map (·.1)).map (fun i=>(i,none))++hp z z2)⟩ [] [] (.fn T fn.results.toList res hout)).den)=o):
  bX P f args hin res hout o:=by
 refine⟨fun{r} hr=> ⟨⟨fn,hf,hn,by rw [hb];rfl⟩,fun B0 vs hF hi hrs=> ?_⟩⟩
 rw [←hd]at hr
 obtain⟨z,hz,hr⟩:=Option.bind_eq_some_iff.1 hr
 obtain⟨z2,hz2,hr⟩:=Option.bind_eq_some_iff.1 hr
 obtain⟨y,hy,hr⟩:=Option.bind_eq_some_iff.1 hr
 obtain⟨hcode,hops⟩:=UX hdf
 have hl:=hrs.length
 obtain⟨B,hBe⟩: ∃B,B=B0.up:=⟨_,rfl⟩
 have hF: ∀k,B.F k→k<B.w.heap.size:=by rw [hBe];exact hF
 have hi:HI B B.ρ B.F B.w (aT hin):=by rw [hBe];exact hi.up
 have hrs:dS B.ρ B.F B.w args vs:=by rw [hBe];exact hrs
 have hmk:B.mb=B.w.heap.size:=by rw [hBe];rfl
 rw [show B0.w=B.w by rw [hBe];rfl]
 have hid: ∀b p,B.ρ b=some p→b∈hin.map (·.1):=fun b p hbp=>by
  apply Classical.byContradiction
  intro hnm
  have:=hi.fresh b (bQ hnm)
  rw [this]at hbp;cases hbp
 have hconc0:Conc B (args.length+(fn.ntmps - args.length)) (hin.map (·.1)) ⟨slotsOf 0 args,hin⟩ {tmps:=vs.toArray++Array.replicate (fn.ntmps - vs.toArray.size) undef,defers:=[] } B.w:=
  ⟨⟨B.ρ,B.F,⟨rfl,rfl, .refl _,Nat.le_refl _,fun _ _ _=>rfl,fun _ _ h=>h,fun k hk=> ⟨hF k hk, .inl hk⟩,fun _ h=>h⟩,hi,fun t tv ht=>by
   obtain⟨_,v,hv,hr'⟩:=tV hrs t tv ht
   refine⟨v, ?_,hr'⟩
   rw [Nat.sub_zero]at hv
   have hlt:t<vs.length:=by
    rcases Nat.lt_or_ge t vs.length with h|h
    ·exact h
    ·rw [List.getElem?_eq_none h]at hv;cases hv
   rw [Array.getElem?_append_left (by simpa using hlt)]
   simpa using hv,Marks.none (Nat.le_of_eq hmk) (by rw [hBe];rfl)⟩,hid,by simp [hl]⟩
 refine callsIn_wide.1 (callsIn_of_wp_marks (F:=Fence.wide) (n:=0) hf hb trivial ?_)
 rw [hcode]
 have hA:=go_ok (n:=FU) (x:= .c p.c) (K:=p.cs.map .sq) (Ey (rd:=none) (q:=true) (B:=B) (fun _=>rfl) hT hm s1 (Tr.oM h1) trivial hz)
 refine J2 hA hconc0 fun a1 w1 hc1=> ?_
 obtain⟨⟨ρ,F,fr1,hi1,hs1,mk1⟩,hid1,sz1⟩:=hc1
 obtain⟨hk1,hk2⟩:=h3 z z2 y
 unfold UE at hk1
 unfold Xq at hk2
 cases hcap:GU (T1.at ⟨slotsOf 0 args,hin⟩ z) p.l with
 |none=>rw [hcap]at hk1;simp at hk1
 |some cvs=>
  cases hg0:get (T1.at ⟨slotsOf 0 args,hin⟩ z).slots p.t with
  |some _=>rw [hcap,hg0]at hk1;simp at hk1
  |none=>
   cases hzip:bW ((chin z z2).map (·.1)) (((chin z z2).map (·.1)++(chd z z2 y).map (·.1)).map (aT (hp z z2)))with
   |none=>rw [hcap,hg0,hzip]at hk1;simp at hk1
   |some hh=>
    rw [hcap,hg0,hzip]at hk1
    rw [hcap,hzip]at hk2
    simp only at hk1 hk2
    rw [Bool.and_eq_true,Bool.and_eq_true,Bool.and_eq_true]at hk1
    obtain⟨k1,k2,k3,k4⟩:=hk1
    have e0:=hk2.1
    simp only [Ck.st.injEq,St.mk.injEq,List.cons.injEq,Prod.mk.injEq,TV.dL.injEq,true_and,and_true]at e0
    obtain⟨e1,e2⟩:=e0
    subst e2
    have hcl:=(cl z z2).run hy
    rw [Nat.eq_of_beq_eq_true k1,←e1]at hcl
    refine wpIn_seq ?_
    refine Ps hops (by rw [sz1];exact Nat.le_of_ble_eq_true k2) ?_
    show p.k.wpIn (FW none) 0 P _ _ _
    have hv:=G9 hs1 hcap
    have hB2:=go_ok (n:=FU) (x:= .c p.k) (K:=[]) (Ey (rd:=none) (q:=true) (B:=B.re w1 ρ F ({target:= .fn (.func p.g) (p.l.map a1.eval).toArray,args:= #[] }::a1.defers)) (fun _=>rfl) hT hm (s2 z) (Tr.oM (h2 z)) trivial hz2)
    refine wpIn_mono (lq (fB hB2 fun e st hq=>hq) _ _ (Un _ hi1 fr1 hs1 sz1 hg0)) ?_
    rintro e a2 w2 ⟨st2,⟨he,⟨pp,l,r1,r2,r3⟩,r5⟩,hc2⟩
    have hslot: ∃r0,get st2.slots t4=some r0∧Di r0 r4:=by
     simp only [IL]at r1
     split at r1
     ·rename_i p1 s q1 l1 x1 x2
      cases x2
      cases r1
      simp only [Rb]at x1
      split at x1
      ·rename_i s' hx
       cases x1
       exact⟨_,hx,r3⟩
      ·cases x1
     ·cases r1
    obtain⟨r0,g1,g2⟩:=hslot
    have hend:=Ey (rd:=none) (q:=true) (B:=B) (fun _=>rfl) hT hm (s3 z z2 y) (Tr.oM (h4 z z2 y)) trivial hr
    have hend:QI B (args.length+(fn.ntmps - args.length)) (hin.map (·.1)) (D6 T fn.results.toList (res r) (hout r)) .ret ⟨[(t4,r0)],chd z z2 y++(((chin z z2).map (·.1)).map (fun i=>(i,none))++hp z z2)⟩:=by
     obtain⟨s',i1,i2⟩:=hend
     refine⟨s',j3.trans (j3.le (st':=⟨[(t4,r4)],chd z z2 y++(((chin z z2).map (·.1)).map (fun i=>(i,none))++hp z z2)⟩) ⟨⟨⟨r0,by simp [aF],g2⟩,trivial⟩,oL.refl _⟩) i1,i2⟩
    have:=Qj hT hBe hF fr1 hi1 mk1 hv hid hc2 g1 r5 hzip k4 hcl hend
    rcases he with rfl|rfl<;>exact this
end
end Sg
