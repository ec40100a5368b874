import Derived.Test.YtcafpngcflplgaaGreatDoorSmLe
import Derived.Shelf.Slices.Delete
import Derived.Shelf.Slices.Empties
import Derived.Recover
set_option linter.all false
namespace Sg
open Go Go.Sort Go.Proofs Go.Shelf
variable {P:Program}
def IS.dn (b:Nat):IS where
 act st:=match get st.heap b with|none=>[.b true]|some _=>[.b false]
 want _:=[.b true]
 nxt st:=⟨st.slots,(b,none)::st.heap⟩
 ok B N L st hs:=by
  split at hs
  ·rename_i h1;intro a w hc;obtain⟨⟨ρ,F,hfr,⟨ft,hi⟩,hs,dn⟩,hid,sz⟩:=hc;have hu: ∀x,aP ((b,none)::st.heap) x=if b=x then some none else aP st.heap x:=fun x=>aC _ _ _ _
   have ho: ∀x ob,aP ((b,none)::st.heap) x=some (some ob)->aP st.heap x=some (some ob):=fun x ob hh=>by
    rw [hu]at hh;split at hh;·cases hh
    ·exact hh
   refine⟨⟨ρ,F,hfr,⟨ft,fun x ob hh=>hi.obj x ob (ho x ob hh),fun x ob k hh=>hi.blk x ob k (ho x ob hh),fun x y o1 o2 k h1 h2=>hi.dis x y o1 o2 k (ho _ _ h1) (ho _ _ h2),fun x hh=> ?_,hi.gl⟩,hs,dn⟩,hid,sz⟩;rw [hu]at hh;split at hh;·cases hh
   ·exact hi.fresh x hh
  ·simp at hs
def FnD (P:Program) (f:FuncId) (args:List SV) (hin hout:List (Nat × Option Ob)):Prop:=
 Enters P f/\ ∀(B:Base) (vs:List Value),(∀k,B.F k->k<B.w.heap.size)->HI B B.ρ B.F B.w (aP hin)->dm B.ρ B.F B.w args vs->
  CallsDIn Fence.wide 0 P f vs.toArray .returning B.w fun e u' w'=>u'= .returning/\ ∃v,e= .returned v/\Post B (.eB []) hout v w'
section
variable {P:Program} {T:List (Nat × TI)}
theorem FnD.Ma {f:FuncId} {args:List SV} {hin hout:List (Nat × Option Ob)} (l:List (Nat × Nat)) (h:FnD P f args hin hout):FnD P f (args.map (SV.ren (swp l))) (qb (swp l) hin) (qb (swp l) hout):=by
 have r:=Cb l;refine⟨h.1,fun B vs hF hi hr=> ?_⟩;refine(h.2 {B with ρ:=fun x=>B.ρ (swp l x)} vs hF ((vk r).1 hi) (mY (σ:=swp l).1 hr)).mono ?_;rintro e u' w' ⟨rfl,v,rfl,ρ',F',hf,g1,g2⟩;refine⟨rfl,v,rfl,fun x=>ρ' (nN l x),F', ?_, ?_, ?_⟩
 ·refine⟨hf.os,hf.tape,hf.output,hf.size,hf.mem,fun b p hb=>hf.rho (nN l b) p ?_,hf.fz,hf.bf⟩;show B.ρ (swp l (nN l b))=some p;rw [r.st];exact hb
 ·refine(vk (ρ0:=fun x=>B.ρ (swp l x)) r).2 ?_;have:(fun x=>(fun x=>ρ' (nN l x)) (swp l x))=ρ':=by funext x;simp [r.ts]
  rw [this];exact g1
 ·obtain⟨us,e1,e2⟩:=g2
  match us,e2 with
  |[],_=>exact⟨[],e1,trivial⟩
end
def YC (ops:Array Oper):Option (Nat × Nat × List Operand):=match ops.toList with
 |[⟨some t, .makeFunc (.func g) first caps,_,_,_,none⟩,⟨none, .defer c,_,_,_,none⟩]=>match c.callee,first.toList,c.args.toList with
  | .value (.tmp t'),[],[]=>bif Nat.beq t' t then some (t,g,caps.toList)else none
  |_,_,_=>none
 |_=>none
theorem Yi {ops:Array Oper} {t g:Nat} {l:List Operand} (h:YC ops=some (t,g,l)): ∃o1 o2 caps c,ops.toList=[o1,o2]/\o1.dst=some t/\o1.op= .makeFunc (.func g) #[] caps/\caps.toList=l/\o1.guard=none/\
  o2.dst=none/\o2.op= .defer c/\c.callee= .value (.tmp t)/\c.args= #[]/\o2.guard=none:=by
 unfold YC at h;split at h
 ·rename_i t1 g1 first caps _ _ _ c _ _ _ e
  split at h
  ·rename_i t' e1 e2 e3;cases hb:Nat.beq t' t1 with
   |false=>rw [hb]at h;cases h
   |true=>
    rw [hb]at h;cases h;rw [bv hb]at e1;refine⟨_,_,caps,c,e,rfl, ?_,rfl,rfl,rfl,rfl,e1, ?_,rfl⟩;·rw [show first= #[]from Array.toList_inj.1 e2]
    ·exact Array.toList_inj.1 e3
  ·cases h
 ·cases h
def Kt:Nat->Code->Option (List Code × Nat × Array Oper × Code)
 |0,_=>none
 |n+1,c=>match c with
  | .seq (.region i ops false) k=>match YC ops with
   |some _=>some ([],i,ops,k)
   |none=>match Kt n k with|some (cs,x)=>some (.region i ops false::cs,x)|none=>none
  | .seq a k=>match Kt n k with|some (cs,x)=>some (a::cs,x)|none=>none
  |_=>none
def dfJ:List Code->Code->Code
 |[],x=>x
 |c::cs,x=> .seq c (dfJ cs x)
theorem FB: ∀{n:Nat} {c:Code} {cs:List Code} {i:Nat} {ops:Array Oper} {k:Code},Kt n c=some (cs,i,ops,k)->c=dfJ cs (.seq (.region i ops false) k)
 |0,_,_,_,_,_,h=>by cases h
 |n+1,c,cs,i,ops,k,h=>by
  unfold Kt at h;split at h
  ·split at h
   ·cases h;rfl
   ·split at h
    ·rename_i e;cases h;rw [FB e];rfl
    ·cases h
  ·split at h
   ·rename_i e;cases h;rw [FB e];rfl
   ·cases h
  ·cases h
def EJ (st:St):List Operand->Option (List CV)
 |[]=>some []
 | .tmp t::l=>match get st.slots t,EJ st l with
  |some (.v (.one c)),some cs=>some (c::cs)
  |_,_=>none
 |_::_=>none
theorem GX {st:St} {a:Act} {ρ:Nat->Option Pl} {F:Nat->Prop} {w:World} (hs: ∀t tv,get st.slots t=some tv-> ∃v,a.tmps[t]? =some v/\bE ρ F w tv v): ∀{l:List Operand} {cs:List CV},EJ st l=some cs->dG ρ F w (cs.map fun c=> .v (.one c)) (l.map a.eval)
 |[],cs,h=>by cases h;trivial
 | .tmp t::l,cs,h=>by
  unfold EJ at h;split at h
  ·rename_i c cs' e1 e2;cases h;obtain⟨v,hv,hr⟩:=hs t _ e1;refine⟨?_,GX hs e2⟩;rw [show a.eval (.tmp t)=v by simp [Act.eval,hv]];exact hr
  ·cases h
 | .const _::_,_,h=>by cases h
 | .func _::_,_,h=>by cases h
 | .global _::_,_,h=>by cases h
section
variable {P:Program} {T:List (Nat × TI)} {B:Base} {N:Nat} {L:List Nat}
theorem nI {rd:Option Nat} {Q:Exit->St->Prop} {e:Exit} {st:St} (he:e≠ .normal): ∀{cs:List Code},post rd P B N L (cs.map .sq) Q e st->Q e st
 |[],h=>h
 |_::cs,h=>by
  cases e with
  |normal=>exact absurd rfl he
  |exit i=>exact nI (cs:=cs) he h
  |goto l=>exact nI (cs:=cs) he h
  |ret=>exact nI (cs:=cs) he h
  |panic c=>exact nI (cs:=cs) he h
  |outgrown=>exact nI (cs:=cs) he h
theorem JJ {rd:Option Nat} {s1:St} {X:Code} {R:Exit->Act->World->Prop}: ∀{cs:List Code} {c:Code} {st:St} {a:Act} {w:World},jV rd P B N L c (post rd P B N L (cs.map .sq) (QI B N L (fun e st=>e= .normal/\st=s1))) st->
  Conc B N L st a w->(∀a' w',Conc B N L s1 a' w'->X.wpIn (FW rd) 0 P R a' w')->(dfJ (c::cs) X).wpIn (FW rd) 0 P R a w
 |[],c,st,a,w,h,hc,hX=>wpIn_seq (wpIn_mono (h a w hc) fun e a' w' ⟨st',⟨s',himp,h1,h2⟩,hc'⟩=>by
   subst h1;subst h2;exact hX a' w' (himp a' w' hc'))
 |c2::cs,c,st,a,w,h,hc,hX=>wpIn_seq (wpIn_mono (h a w hc) fun e a' w' ⟨st',hq,hc'⟩=>by
   cases e with
   |normal=>exact JJ (cs:=cs) hq hc' hX
   |exit i=>obtain⟨_,_,h1,_⟩:=nI (cs:=c2::cs) (by simp) hq;cases h1
   |goto l=>obtain⟨_,_,h1,_⟩:=nI (cs:=c2::cs) (by simp) hq;cases h1
   |ret=>obtain⟨_,_,h1,_⟩:=nI (cs:=c2::cs) (by simp) hq;cases h1
   |panic c=>obtain⟨_,_,h1,_⟩:=nI (cs:=c2::cs) (by simp) hq;cases h1
   |outgrown=>obtain⟨_,_,h1,_⟩:=nI (cs:=c2::cs) (by simp) hq;cases h1)
theorem Oy {i t g:Nat} {ops:Array Oper} {l:List Operand} (hi:YC ops=some (t,g,l)) {a:Act} {w:World} (ht:t<a.tmps.size) {Q:Exit->Act->World->Prop}
  (hQ:Q .normal {(a.put (some t) (.func (.func g) #[] (l.map a.eval).toArray))with defers:={target:= .fn (.func g) (l.map a.eval).toArray,args:= #[] }::a.defers} w):(Code.region i ops false).wpIn (FW none) 0 P Q a w:=by
 obtain⟨o1,o2,caps,c,h1,h2,h3,h4,h5,h6,h7,h8,h9,h10⟩:=Yi hi;have hsz:ops.size=2:=by rw [<-de,h1];rfl
 have g0:ops[0]? =some o1:=by rw [<-Array.getElem?_toList,h1];rfl
 have g1:ops[1]? =some o2:=by rw [<-Array.getElem?_toList,h1];rfl
 refine wpIn_region ?_;rw [hsz,show List.range 2=[0,1]from rfl];have hv:(.func (.func g) (#[].map a.eval) (caps.map a.eval):Value)= .func (.func g) #[] (l.map a.eval).toArray:=by
  have e:caps.map a.eval=(caps.toList.map a.eval).toArray:=Array.toList_inj.1 (by simp);rw [e,<-h4,Array.map_empty]
 have e1:(execOp a.eval o1).run P w= .ok (.value (.func (.func g) #[] (l.map a.eval).toArray)) w:=by
  simp only [execOp,h3,Instr.makeFunc];rw [<-hv];rfl
 rw [wpOpsIn_cons];unfold wpOpIn;simp only [g0];rw [ci (by simp [Region.wanted,h5])];refine⟨fun _ _=>trivial, ?_⟩;rw [show o1.semAt (FW none).round a.eval=execOp a.eval o1 from rfl,e1,Oper.uponIn_value,wpOpsIn_cons];unfold wpOpIn;simp only [g1];rw [ci (by simp [Region.wanted,h10])];refine⟨fun _ _=>trivial, ?_⟩;rw [show∀a:Act,o2.semAt (FW none).round a.eval=execOp a.eval o2 from fun _=>rfl,h2];have ev:(a.put (some t) (.func (.func g) #[] (l.map a.eval).toArray)).eval (.tmp t)= .func (.func g) #[] (l.map a.eval).toArray:=by
  simp [Act.eval,Act.put,ht]
 have e2:(execOp (a.put (some t) (.func (.func g) #[] (l.map a.eval).toArray)).eval o2).run P w= .ok (.defer {target:= .fn (.func g) (l.map a.eval).toArray,args:= #[] }) w:=by
  simp only [execOp,h7,Go.resolve,h8,h9,ev,Deferred.ofValue];simp
 rw [e2,Oper.uponIn_defer,h6];exact hQ
def Base.re (B:Base) (w:World) (ρ:Nat->Option Pl) (F:Nat->Prop) (D:List Deferred):Base:=⟨w,ρ,F,fun k=> ¬ F k/\(B.Ft k\/B.w.heap.size<=k),w.heap.size,D⟩
theorem HI.re {w:World} {ρ:Nat->Option Pl} {F:Nat->Prop} {h:Hp} (D:List Deferred) (hi:HI B ρ F w h):HI (B.re w ρ F D) ρ F w h:=by
 obtain⟨ft,hi⟩:=hi;exact⟨ft,hi.obj,fun b ob k hb hk=> ⟨(hi.blk b ob k hb hk).1,(hi.blk b ob k hb hk).2.1, .inl ⟨(hi.blk b ob k hb hk).2.1,(hi.blk b ob k hb hk).2.2⟩⟩,hi.dis,hi.fresh,hi.gl⟩
theorem Fr.Xe {w w':World} {ρ ρ':Nat->Option Pl} {F F':Nat->Prop} {D:List Deferred} (f:Fr B ρ F w) (f':Fr (B.re w ρ F D) ρ' F' w'):Fr B ρ' F' w' where
 os:=f'.os.trans f.os
 tape:=f'.tape.trans f.tape
 output:=f'.output.trans f.output
 size:=dC f.size f'.size
 mem:=fun k hk hn=>(f'.mem k (eJ hk f.size) fun⟨_,h⟩=>h.elim hn fun h=>by omega).trans (f.mem k hk hn)
 rho:=fun b p h=>f'.rho b p (f.rho b p h)
 fz:=fun k hk=> ⟨(f'.fz k hk).1,by
  rcases(f'.fz k hk).2 with h|h|h;·exact(f.fz k h).2
  ·exact .inr h.2
  ·exact .inr (.inr (dC f.size h))⟩
 bf:=fun k h=>f'.bf k (f.bf k h)
theorem HI.Xe {w w':World} {ρ ρ':Nat->Option Pl} {F F':Nat->Prop} {h:Hp} {D:List Deferred} (f:Fr B ρ F w) (hi:HI (B.re w ρ F D) ρ' F' w' h):HI B ρ' F' w' h:=by
 obtain⟨ft,hi⟩:=hi;refine⟨ft,hi.obj,fun b ob k hb hk=> ⟨(hi.blk b ob k hb hk).1,(hi.blk b ob k hb hk).2.1, ?_⟩,hi.dis,hi.fresh,hi.gl⟩;rcases(hi.blk b ob k hb hk).2.2 with h|h;·exact h.2
 ·exact .inr (dC f.size h)
theorem Ud {st:St} {a:Act} {w:World} {ρ:Nat->Option Pl} {F:Nat->Prop} {t:Nat} {fv:Value} (D:Deferred) (hi:HI B ρ F w (aP st.heap)) (fr:Fr B ρ F w) (hs: ∀t tv,get st.slots t=some tv-> ∃v,a.tmps[t]? =some v/\bE ρ F w tv v) (sz:a.tmps.size=N) (ht:get st.slots t=none):
  Conc (B.re w ρ F (D::a.defers)) N (st.heap.map (·.1)) st {(a.put (some t) fv)with defers:=D::a.defers} w:=by
 refine⟨⟨ρ,F,⟨rfl,rfl, .refl _,cx _,fun _ _ _=>rfl,fun _ _ h=>h,fun k hk=> ⟨(fr.fz k hk).1, .inl hk⟩,fun _ h=>h⟩,hi.re _,fun t' tv ht'=> ?_,cx _,[],rfl,List.nodup_nil,fun _ h=>by simp at h⟩,fun b p hbp=> ?_,by simp [Act.put,sz]⟩
 ·obtain⟨v,hv,hr⟩:=hs t' tv ht';refine⟨v, ?_,hr⟩;have hne:t≠t':=fun e=>by subst e;rw [ht]at ht';cases ht'
  simp only [Act.put];rw [Array.getElem?_setIfInBounds_ne hne];exact hv
 ·apply cM;intro hnm;have:=hi.fresh b (bL hnm);have hbp:ρ b=some p:=hbp;rw [this]at hbp;cases hbp
theorem dG.gr' {ρ ρ':Nat->Option Pl} {F F':Nat->Prop} {w w':World} (g:Gr ρ F w ρ' F' w'): ∀{xs:List TV} {vs:List Value},dG ρ F w xs vs->dG ρ' F' w' xs vs
 |[],[],_=>trivial
 |_::_,_::_,⟨h1,h2⟩=> ⟨h1.gr g,dG.gr' g h2⟩
 |[],_::_,h=>h.elim
 |_::_,[],h=>h.elim
theorem OH (hT:kg P T) {B0:Base} {fn:Func} {st:St} {res:TV} {hout:List (Nat × Option Ob)} {e:Exit} (hB:B=B0.up) (hF: ∀k,B.F k->k<B.w.heap.size) {a:Act} {w:World} (hc:Conc B N L st a w) (hq:Ep T fn.results.toList res hout e st):
  LeavesInM Fence.wide 0 P fn a.tmps (fun e w'=> ∃v ρ' F',e= .returned v/\Fr B0 ρ' F' w'/\HI B0 ρ' F' w' (aP hout)/\bE ρ' F' w' res v) a.defers .returning w:=by
 have dnF: ∀{ρ F w},Fr B ρ F w->Fr B0 ρ F w:=by rw [hB];exact Fr.dn
 have dnH: ∀{ρ F w h},HI B ρ F w h->HI B0 ρ F w h:=by rw [hB];exact HI.dn
 obtain⟨_,⟨p,l,h1,h2,h3⟩,h4⟩:=hq;obtain⟨⟨ρ',F',hfr,hhi,hs,dn⟩,_,_⟩:=hc;have key: ∀(ds:List Deferred) (F:Nat->Prop) (w:World),Known B st a.tmps F ρ' w ds->LeavesInM Fence.wide 0 P fn a.tmps (fun e w'=> ∃v ρ' F',e= .returned v/\Fr B0 ρ' F' w'/\HI B0 ρ' F' w' (aP hout)/\bE ρ' F' w' res v) ds .returning w:=by
  intro ds;induction ds with
  |nil=>
   intro F w hk;obtain⟨us,g1,g2⟩:=Ff hT hk.hi hk.sl h1 h2;have hres: ∃v,(results fn a.tmps).run P w= .ok v w/\bE ρ' F w (Jm l) v:=by
    refine⟨if h:us.length=1 then us[0]else .tuple us.toArray, ?_, ?_⟩
    ·rw [Eu,eC,Array.mapM_eq_mapM_toList,Sem.run_map,g1];simp
    ·have hlen:=g2.length
     match l,us,g2,hlen with
     |[],[],_,_=>exact⟨[],rfl,trivial⟩
     |[s],[u],g2,_=>exact g2.1
     |s1::s2::l,u1::u2::us,g2,_=>exact⟨u1::u2::us,by simp,g2⟩
   obtain⟨v,hv,hr⟩:=hres;exact⟨v,hv,v,ρ',F,rfl,dnF hk.fr,dnH (hk.hi.le h4),h3 _ _ _ _ hr⟩
  |cons d ds ih=>
   intro F w hk;obtain⟨D,w2,F2,x1,x2,x3⟩:=sW (P:=P) hk;exact⟨by simp, .inl ⟨D,w2,x1,x2,ih F2 w2 x3⟩⟩
 exact key a.defers F' w ⟨hfr,hhi,hs,dn,by rw [hB];rfl,hF,by rw [hB];rfl⟩
theorem QY (l m:List (Nat × Option Ob)):upd (aP m) l=aP (l++m):=by
 funext b
 show(match get l b with|some o=>some o|none=>get m b)=get (l++m) b;rw [get_append];cases get l b<;>rfl
end
structure XT where
 c:Code
 cs:List Code
 i:Nat
 ops:Array Oper
 t:Nat
 g:Nat
 l:List Operand
 k:Code
def dfP (c:Code):Option XT:=match Kt 1000 c with
 |some (c1::cs,i,ops,k)=>match YC ops with
  |some (t,g,l)=>some ⟨c1,cs,i,ops,t,g,l,k⟩
  |none=>none
 |_=>none
theorem Xr {c:Code} {p:XT} (h:dfP c=some p):c=dfJ (p.c::p.cs) (.seq (.region p.i p.ops false) p.k)/\YC p.ops=some (p.t,p.g,p.l):=by
 unfold dfP at h;split at h
 ·rename_i e1;split at h
  ·rename_i e2;cases h;exact⟨FB e1,e2⟩
  ·cases h
 ·cases h
def dfG (c:Code):XT:=match dfP c with|some p=>p|none=> ⟨.skip,[],0, #[],0,0,[], .skip⟩
def Sn (p:XT) (N:Nat) (st1:St) (g:Nat) (args:List SV) (hin hd hp:List (Nat × Option Ob)):Bool:=
 match EJ st1 p.l,get st1.slots p.t,bJ (hin.map (·.1)) ((hin.map (·.1)++hd.map (·.1)).map (aP hp))with
 |some cvs,none,some _=>Nat.beq g p.g && (Nat.blt p.t N && (Nat.beq cvs.length args.length &&
   ((bZ ((cvs.map SV.one).flatMap SV.bP) (hin.map (·.1)) && bZ (dF (((hin.map (·.1)++hd.map (·.1)).map (aP hp)).take (hin.map (·.1)).length)) (hin.map (·.1)) && fE (hin.map (·.1)) (hd.map (·.1)) (((hin.map (·.1)++hd.map (·.1)).map (aP hp)).drop (hin.map (·.1)).length)))))
 |_,_,_=>false
def YK (p:XT) (st1:St) (args:List SV) (hin hd hp:List (Nat × Option Ob)):CP:=
 match EJ st1 p.l,bJ (hin.map (·.1)) ((hin.map (·.1)++hd.map (·.1)).map (aP hp))with
 |some cvs,some h=>[(.st ⟨[(0, .eB (cvs.map .one))],h⟩, .st ⟨[(0, .eB args)],hin⟩)]
 |_,_=>[(.b true, .b false)]
def TG (p:XT) (N:Nat) (st1:St) (g:Nat) (args:List SV) (hin hd hp:List (Nat × Option Ob)):Prop:=Sn p N st1 g args hin hd hp=true/\(YK p st1 args hin hd hp).ok
section
variable {P:Program} {T:List (Nat × TI)}
end
section
variable {P:Program} {T:List (Nat × TI)} {pv:Value}
theorem OX {f:Nat} {fn:Func} {c:Code} {args:List SV} {hin:List (Nat × Option Ob)} (hf:P.funcs[f]? =some fn) (hb:fn.body=some c) (hn:(fn.name== "runtime.NumGoroutine")=false)
  (h: ∀B,jV none P B (args.length+(fn.ntmps - args.length)) (hin.map (·.1)) c (fun e st=>e=VI pv/\oo st.heap hin) ⟨slotsOf 0 args,hin⟩):Je P pv f args hin:=by
 refine⟨⟨fn,hf,hn,by rw [hb];rfl⟩,fun B0 vs hF hi hr=> ?_⟩;have hl:=hr.length;obtain⟨B,hBe⟩: ∃B,B=B0.up:=⟨_,rfl⟩;have hF: ∀k,B.F k->k<B.w.heap.size:=by rw [hBe];exact hF
 have hi:HI B B.ρ B.F B.w (aP hin):=by rw [hBe];exact hi.up
 have hr:dm B.ρ B.F B.w args vs:=by rw [hBe];exact hr
 have hmk:B.mb=B.w.heap.size:=by rw [hBe];rfl
 have dnF: ∀{ρ F w},Fr B ρ F w->Fr B0 ρ F w:=by rw [hBe];exact Fr.dn
 have dnH: ∀{ρ F w h},HI B ρ F w h->HI B0 ρ F w h:=by rw [hBe];exact HI.dn
 rw [show B0.w=B.w by rw [hBe];rfl];refine callsIn_wide.1 (callsIn_of_wp_marks (F:=Fence.wide) (n:=0) hf hb trivial (wpIn_mono (h B _ _ ⟨⟨B.ρ,B.F,⟨rfl,rfl, .refl _,cx _,fun _ _ _=>rfl,fun _ _ h=>h,fun k hk=> ⟨hF k hk, .inl hk⟩,fun _ h=>h⟩,hi,fun t tv ht=> ?_,Marks.none (Nat.le_of_eq hmk) (by rw [hBe];rfl)⟩,fun b p hbp=> ?_, ?_⟩) ?_))
 ·obtain⟨_,v,hv,hr'⟩:=qg hr t tv ht;refine⟨v, ?_,hr'⟩;rw [Nat.sub_zero]at hv;have hlt:t<vs.length:=by
   rcases Nat.lt_or_ge t vs.length with h|h;·exact h
   ·rw [eL h]at hv;cases hv
  rw [Array.getElem?_append_left (by simpa using hlt)];simpa using hv
 ·apply cM;intro hnm;have:=hi.fresh b (bL hnm);rw [this]at hbp;cases hbp
 ·simp [hl]
 ·rintro e a' w' ⟨st',⟨rfl,h4⟩,hc⟩;obtain⟨⟨ρ',F',hfr,hhi,hs,dn⟩,_,_⟩:=hc;have key: ∀(ds:List Deferred) (F:Nat->Prop) (w:World),Known B st' a'.tmps F ρ' w ds->LeavesInM Fence.wide 0 P fn a'.tmps (fun e w'=>e= .panicked [{v:=pv,recovered:=false}]/\Post B0 (.eB []) hin (.tuple #[]) w') ds (.panicking [{v:=pv,recovered:=false}]) w:=by
   intro ds;induction ds with
   |nil=>
    intro F w hk;exact⟨rfl,ρ',F,dnF hk.fr,dnH (hk.hi.le h4),[],rfl,trivial⟩
   |cons d ds ih=>
    intro F w hk;obtain⟨D,w2,F2,x1,x2,x3⟩:=sW (P:=P) hk;exact⟨by simp, .inl ⟨D,w2,x1,x2,ih F2 w2 x3⟩⟩
  exact key a'.defers F' w' ⟨hfr,hhi,hs,dn,by rw [hBe];rfl,hF,by rw [hBe];rfl⟩
structure Ga (P:Program) (pv:Value) (f:Nat) (args:List SV) (hin:List (Nat × Option Ob)) {R:Type} (res:R->TV) (hout:R->List (Nat × Option Ob)) (o:Option (Option R)):Prop where
 ret: ∀{r:R},o=some (some r)->Fn P f args hin (res r) (hout r)
 pan:o=some none->Je P pv f args hin
theorem Wi (hT:kg P T) (hm:P.follows .mixedOrders=true) {f:Nat} {fn:Func} {args:List SV} {hin:List (Nat × Option Ob)} {R:Type} {res:R->TV} {hout:R->List (Nat × Option Ob)} {o:Option (Option R)} (hf:P.funcs[f]? =some fn) (s:Sc (Option R))
  (hb:fn.body=some (jX fn):=by kernel_rfl) (hn:(fn.name== "runtime.NumGoroutine")=false:=by kernel_rfl)
  (hs:(tr true P T (args.length+(fn.ntmps - args.length)) s (hin.map (·.1)) (go FU (.c (jX fn)) []) ⟨slotsOf 0 args,hin⟩ [] [] (.fnp pv T fn.results.toList res hout hin)).side true=(tr true P T (args.length+(fn.ntmps - args.length)) s (hin.map (·.1)) (go FU (.c (jX fn)) []) ⟨slotsOf 0 args,hin⟩ [] [] (.fnp pv T fn.results.toList res hout hin)).side false:=by kernel_rfl)
  (hd:(tr true P T (args.length+(fn.ntmps - args.length)) s (hin.map (·.1)) (go FU (.c (jX fn)) []) ⟨slotsOf 0 args,hin⟩ [] [] (.fnp pv T fn.results.toList res hout hin)).den=o:=by kernel_rfl):Ga P pv f args hin res hout o:=by
 have h: ∀r,o=some r-> ∀B,jV none P B (args.length+(fn.ntmps - args.length)) (hin.map (·.1)) (jX fn) ((Po.fnp pv T fn.results.toList res hout hin).Q none P B (args.length+(fn.ntmps - args.length)) (hin.map (·.1)) r) ⟨slotsOf 0 args,hin⟩:=fun r hr B=>by
  have h:=go_ok (n:=FU) (x:= .c (jX fn)) (K:=[]) (Cn (rd:=none) (q:=true) (B:=B) (fun _=>rfl) hT hm s (Tr.lU hs) trivial (hd.trans hr));exact jC (eH h fun e st hq=>hq)
 refine⟨fun{r} hr=>KU hT hf hb hn fun B=>h _ hr B,fun hr=>OX hf hb hn fun B=>h _ hr B⟩
end
theorem Je.Ma {P:Program} {pv:Value} {f:FuncId} {args:List SV} {hin:List (Nat × Option Ob)} (l:List (Nat × Nat)) (h:Je P pv f args hin):Je P pv f (args.map (SV.ren (swp l))) (qb (swp l) hin):=by
 have r:=Cb l;refine⟨h.1,fun B vs hF hi hr=> ?_⟩;refine(h.2 {B with ρ:=fun x=>B.ρ (swp l x)} vs hF ((vk r).1 hi) (mY (σ:=swp l).1 hr)).mono ?_;rintro e w' ⟨rfl,ρ',F',hf,g1,_⟩;refine⟨rfl,fun x=>ρ' (nN l x),F', ?_, ?_,[],rfl,trivial⟩
 ·refine⟨hf.os,hf.tape,hf.output,hf.size,hf.mem,fun b p hb=>hf.rho (nN l b) p ?_,hf.fz,hf.bf⟩;show B.ρ (swp l (nN l b))=some p;rw [r.st];exact hb
 ·refine(vk (ρ0:=fun x=>B.ρ (swp l x)) r).2 ?_;have:(fun x=>(fun x=>ρ' (nN l x)) (swp l x))=ρ':=by funext x;simp [r.ts]
  rw [this];exact g1
theorem Je.le {P:Program} {pv:Value} {f:Nat} {args args':List SV} {hin:List (Nat × Option Ob)} (h:Je P pv f args hin) (hl:En args' args):Je P pv f args' hin:=
 ⟨h.1,fun B vs hF hi hr=>h.2 B vs hF hi (hl.Oo hr)⟩
section
variable {P:Program} {pv:Value} {f:Nat} {args:List SV} {hin:List (Nat × Option Ob)} {R:Type} {res:R->TV} {hout:R->List (Nat × Option Ob)} {o:Option (Option R)}
theorem rkP (l:List (Nat × Nat)) (h:Ga P pv f args hin res hout o):Ga P pv f (args.map (SV.ren (swp l))) (qb (swp l) hin) (fun r=>(res r).ren (swp l)) (fun r=>qb (swp l) (hout r)) o:=
 ⟨fun hr=>Fn.Ma l (h.ret hr) rfl rfl rfl rfl,fun hr=>(h.pan hr).Ma l⟩
end
namespace Sc
variable {P:Program} {pv:Value}
def cp {f:Nat} {args:List SV} {hin:List (Nat × Option Ob)} {R T:Type} {res:T->TV} {hout:T->List (Nat × Option Ob)} {o:Option (Option T)} (i:Nat) (h:Ga P pv f args hin res hout o) (k:T->Sc R) (p:Sc R):Sc R:=
 .pb o (fun y=>Fn P f args hin (res y) (hout y)) (Je P pv f args hin) (fun _ hy=>h.ret hy) (fun hy=>h.pan hy) (fun y=>[(i, .call (jY hin) (res y) (hout y))]) [(i, .call (jY hin) (.eB []) [(999999,none)])] k p
def cpr {f:Nat} {args:List SV} {hin:List (Nat × Option Ob)} {R T:Type} {res:T->TV} {hout:T->List (Nat × Option Ob)} {o:Option (Option T)} (i:Nat) (h:Ga P pv f args hin res hout o) (k:T->Sc R) (p:Sc R):Sc R:=
 .pb o (fun y=>Fn P f args hin (res y) (hout y)) (Je P pv f args hin) (fun _ hy=>h.ret hy) (fun hy=>h.pan hy) (fun y=>[(i, .callR (jY hin) (res y))]) [(i, .call (jY hin) (.eB []) [(999999,none)])] k p
end Sc
def Sq (P:Program) (u u1:FrameMode) (f:FuncId) (args:List SV) (hin hout:List (Nat × Option Ob)):Prop:=
 Enters P f/\ ∀(B:Base) (vs:List Value),(∀k,B.F k->k<B.w.heap.size)->HI B B.ρ B.F B.w (aP hin)->dm B.ρ B.F B.w args vs->
  CallsDIn Fence.wide 0 P f vs.toArray u B.w fun e u' w'=>u'=u1/\ ∃v,e= .returned v/\Post B (.eB []) hout v w'
theorem tN {P:Program} {f:FuncId} {fn:Func} {c:Code} {args:Array Value} {u:FrameMode} {w:World} {R:Ending->FrameMode->World->Prop}
  (hf:P.funcs[f]? =some fn) (hb:fn.body=some c)
  (h: ∀(c₀:Frame) (cs:List Frame),c₀.mode=u->
   c.wpS P (bodyPostS P fn c₀ cs R) {tmps:=args++Array.replicate (fn.ntmps - args.size) undef,defers:=[] } (c₀::cs) w):
  CallsDIn Fence.wide 0 P f args u w R:=by
 refine⟨trivial,fun c₀ cs hu _=> ?_⟩
 let b:Frame:={(default:Frame)with fn:=f,kind:= .deferred}
 have henter:Frame.enter P f args .deferred=
   b.at {tmps:=args++Array.replicate (fn.ntmps - args.size) undef,defers:=[] } [.code c]:=by
  simp [Frame.enter,Frame.at,hf,hb,b]
 obtain⟨e,a',cs',w',hq,harr⟩:=h c₀ cs hu b [] rfl rfl;rw [<-henter]at harr;cases e with
 |normal=>
  obtain⟨hd,u',rfl,v,hr,hR⟩:=hq;exact⟨.returned v,u',w',_,hR,comesIn_wide.2 (Steps.trans harr (.one step_end)),rfl,rfl,rfl,hd,fn,hf,hr⟩
 |ret=>
  obtain⟨hd,u',rfl,v,hr,hR⟩:=hq;obtain⟨todo,hs⟩:=harr;exact⟨.returned v,u',w',_,hR,comesIn_wide.2 hs,rfl,rfl,rfl,hd,fn,hf,hr⟩
 |panic chain=>
  obtain⟨hd,u',rfl,hR⟩:=hq;obtain⟨todo,hs⟩:=harr;exact⟨.panicked chain,u',w',_,hR,comesIn_wide.2 hs,rfl,rfl,rfl,hd,fn,hf⟩
 |exit id=>exact hq.elim
 |goto l=>exact hq.elim
 |outgrown=>
  obtain⟨u',hR⟩:=hq;exact⟨.outgrown,u',w',b,hR,comesIn_wide.2 (harr.resolve_left (by simp [b])),rfl,rfl,trivial⟩
section
variable {P:Program} {T:List (Nat × TI)} {B:Base} {N:Nat} {L:List Nat}
theorem Ac {st:St} {fn:Func} {R:Ending->World->Prop} {tmps:Array Value} {ρ:Nat->Option Pl} {rest:List Deferred} {u:FrameMode} (hu:u≠ .run) (hB:B.df=[]): ∀{ds:List Deferred} {F:Nat->Prop} {w:World},Known B st tmps F ρ w ds->
  (∀F' w',Known B st tmps F' ρ w' []->LeavesInM Fence.wide 0 P fn tmps R rest u w')->LeavesInM Fence.wide 0 P fn tmps R (ds++rest) u w
 |[],F,w,hk,h=>h F w hk
 |d::ds,F,w,hk,h=>by
  obtain⟨D,w2,F2,x1,x2,x3⟩:=sW (P:=P) hk;exact⟨hu, .inl ⟨D,w2,x1,x2,Ac hu hB x3 h⟩⟩
theorem Ho (hT:kg P T) {B0:Base} {fn:Func} {st2:St} {res:TV} {hout:List (Nat × Option Ob)} {u u1:FrameMode} (hu:u≠ .run) (hu1:settle u1= .returning) (hB:B=B0.up) (hF: ∀k,B.F k->k<B.w.heap.size) {L0:List Nat} {w a2 w2} {ρ:Nat->Option Pl} {F:Nat->Prop} {M:List Deferred} {g:Nat} {vs:List Value} {cvs:List CV}
  (fr:Fr B ρ F w) (hM:Marks B F w M) (hv:dG ρ F w (cvs.map fun c=> .v (.one c)) vs) (hid: ∀b p,B.ρ b=some p->b∈L0)
  (hc:Conc (B.re w ρ F ({target:= .fn (.func g) vs.toArray,args:= #[] }::M)) N L st2 a2 w2)
  {hin hd:List (Nat × Option Ob)}
  (hzip:bJ (hin.map (·.1)) ((hin.map (·.1)++hd.map (·.1)).map (aP st2.heap))=some hin)
  (hb:(bZ ((cvs.map SV.one).flatMap SV.bP) (hin.map (·.1)) && bZ (dF (((hin.map (·.1)++hd.map (·.1)).map (aP st2.heap)).take (hin.map (·.1)).length)) (hin.map (·.1)) && fE (hin.map (·.1)) (hd.map (·.1)) (((hin.map (·.1)++hd.map (·.1)).map (aP st2.heap)).drop (hin.map (·.1)).length))=true)
  (hD:Sq P u u1 g (cvs.map .one) hin hd) (hend:QI B N L0 (Ep T fn.results.toList res hout) .ret ⟨st2.slots,hd++((hin.map (·.1)).map (fun i=>(i,none))++st2.heap)⟩):
  LeavesInM Fence.wide 0 P fn a2.tmps (fun e w'=> ∃v ρ' F',e= .returned v/\Fr B0 ρ' F' w'/\HI B0 ρ' F' w' (aP hout)/\bE ρ' F' w' res v) a2.defers u w2:=by
 obtain⟨⟨ρ2,F2,fr2,hi2,hs2,dn2⟩,hid2,sz2⟩:=hc;obtain⟨hm0,Ds,hds,hnd,hDs⟩:=dn2;rw [hds];obtain⟨Bz,hz⟩: ∃Bz:Base,Bz=B.re w ρ F []:=⟨_,rfl⟩;have frz:Fr Bz ρ2 F2 w2:=by rw [hz];exact⟨fr2.os,fr2.tape,fr2.output,fr2.size,fr2.mem,fr2.rho,fr2.fz,fr2.bf⟩
 have hiz:HI Bz ρ2 F2 w2 (aP st2.heap):=by
  obtain⟨ft,hi2⟩:=hi2;rw [hz];exact⟨ft,hi2.obj,hi2.blk,hi2.dis,hi2.fresh,hi2.gl⟩
 refine Ac (B:=Bz) (st:=st2) (ρ:=ρ2) hu (by rw [hz];rfl) (F:=F2) ⟨frz,hiz,hs2,⟨by rw [hz];exact cx _,Ds,by rw [hz];simp [Base.re],hnd,fun D hD=>by rw [hz];exact hDs D hD⟩,by rw [hz];rfl,fun k hk=>by rw [hz]at hk ⊢;exact(fr.fz k hk).1,by rw [hz];rfl⟩ ?_;intro F3 w3 hk;have gv:dG ρ2 F3 w3 (cvs.map fun c=> .v (.one c)) vs:=by
  have fr3:=hk.fr;rw [hz]at fr3;have g:Gr ρ F w ρ2 F3 w3:=⟨fr3.rho,fr3.bf,fun k hk=>fr3.mem k (fr.fz k hk).1 fun h=>h.1 hk⟩;exact dG.gr' g hv
 have hargs:gT (cvs.map fun c=>(TV.v (.one c)))=some (cvs.map .one):=by
  clear hD hb hv gv;induction cvs with
  |nil=>rfl
  |cons c cs ih=>simp only [cL,gT,ih]
 refine⟨hu, .inr ⟨(fun h=>by cases h), .func g,vs.toArray,g,vs.toArray,rfl, ?_,fun _ _=>trivial, ?_⟩⟩
 ·obtain⟨fn',e1,e2,e3⟩:=hD.1;simp only [invoke,callFunc,eC,run_program,eA,e1,e2,e3,Bool.false_eq_true,if_false];simp
 ·show CallsDIn Fence.wide 0 P g vs.toArray u w3 _;refine(AZ (B:=Bz) (ids:=hin.map (·.1)) (hin:=hin) (hout:=hd) (h:=aP st2.heap) (X:=fun K=>CallsDIn Fence.wide 0 P g vs.toArray u w3 fun e u' w'=> ∃v,e=Ending.returned v/\K v w'/\u'=u1) hzip hargs hb rfl hk.fr hk.hi gv (fun B' hw _ hF' hi' hxs K hK=>by
     subst hw;refine(hD.2 B' vs hF' hi' hxs).mono ?_;rintro e u' w' ⟨rfl,v,rfl,hp⟩;exact⟨v,rfl,hK v w' hp,rfl⟩) (fun _ w4=>LeavesInM Fence.wide 0 P fn a2.tmps (fun e w'=> ∃v ρ' F',e=Ending.returned v/\Fr B0 ρ' F' w'/\HI B0 ρ' F' w' (aP hout)/\bE ρ' F' w' res v) M FrameMode.returning w4) ?_).mono ?_
  ·intro v ρ4 F4 w4 g4 fr4 hi4 _;rw [QY,cQ]at hi4;have fr4':=fr4;have hi4':=hi4;rw [hz]at fr4' hi4';obtain⟨s',himp,hq⟩:=hend;obtain⟨hM0,Ds0,hM1,hM2,hM3⟩:=hM;have hconc:Conc B N L0 ⟨st2.slots,hd++((hin.map (·.1)).map (fun i=>(i,none))++st2.heap)⟩ {tmps:=a2.tmps,defers:=M} w4:=by
    refine⟨⟨ρ4,F4,fr.Xe fr4',HI.Xe fr hi4',fun t tv ht=> ?_,hM0,Ds0,hM1,hM2,fun D hD=> ?_⟩,hid,sz2⟩
    ·obtain⟨v',hv',hr'⟩:=hk.sl t tv ht;exact⟨v',hv',hr'.gr g4⟩
    ·obtain⟨q1,q2,q3⟩:=hM3 D hD;exact⟨fr4'.bf D q1,q2,by rw [fr4'.mem D (fr.fz D q1).1 fun h=>h.1 q1];exact q3⟩
   exact OH hT hB hF (himp _ _ hconc) hq
  ·rintro e u' w' ⟨v,rfl,h,e2⟩;show LeavesInM Fence.wide 0 P fn a2.tmps _ M (settle u') w';rw [e2,hu1];exact h
theorem Zh (hT:kg P T) (hm:P.follows .mixedOrders=true) {f:Nat} {fn:Func} {args:List SV} {hin:List (Nat × Option Ob)} {R:Type} {res:R->TV} {hout:R->List (Nat × Option Ob)} {o:Option R} (hf:P.funcs[f]? =some fn) {p:XT} {pv:Value}
  {β γ δ:Type} (s1:Sc β) (T1:Tg β) (s2:β->Sc (Sum γ δ)) (T2:β->Tg γ) (T3:β->Tg δ) {g:Nat} {cargs:β->List SV} {chin chd:β->γ->List (Nat × Option Ob)} {cpin cpd:β->δ->List (Nat × Option Ob)}
  (cl: ∀z y,Sq P .returning .returning g (cargs z) (chin z y) (chd z y)) (clp: ∀z y,Sq P (.panicking [{v:=pv,recovered:=false}]) (.panicking [{v:=pv,recovered:=true}]) g (cargs z) (cpin z y) (cpd z y))
  (s3:β->γ->Sc R) (s4:β->δ->Sc R)
  (hb:fn.body=some (jX fn)) (hn:(fn.name== "runtime.NumGoroutine")=false) (hdf:dfP (jX fn)=some p)
  (h1:(tr true P T (args.length+(fn.ntmps - args.length)) s1 (hin.map (·.1)) (go FU (.c p.c) (p.cs.map .sq)) ⟨slotsOf 0 args,hin⟩ [] [] (.jN (T1.at ⟨slotsOf 0 args,hin⟩))).side true=(tr true P T (args.length+(fn.ntmps - args.length)) s1 (hin.map (·.1)) (go FU (.c p.c) (p.cs.map .sq)) ⟨slotsOf 0 args,hin⟩ [] [] (.jN (T1.at ⟨slotsOf 0 args,hin⟩))).side false)
  (h2: ∀z,(tr true P T (args.length+(fn.ntmps - args.length)) (s2 z) ((T1.at ⟨slotsOf 0 args,hin⟩ z).heap.map (·.1)) (go FU (.c p.k) []) (T1.at ⟨slotsOf 0 args,hin⟩ z) [] [] (.dq pv ((T2 z).at (T1.at ⟨slotsOf 0 args,hin⟩ z)) ((T3 z).at (T1.at ⟨slotsOf 0 args,hin⟩ z)))).side true=(tr true P T (args.length+(fn.ntmps - args.length)) (s2 z) ((T1.at ⟨slotsOf 0 args,hin⟩ z).heap.map (·.1)) (go FU (.c p.k) []) (T1.at ⟨slotsOf 0 args,hin⟩ z) [] [] (.dq pv ((T2 z).at (T1.at ⟨slotsOf 0 args,hin⟩ z)) ((T3 z).at (T1.at ⟨slotsOf 0 args,hin⟩ z)))).side false)
  (h3: ∀z y,TG p (args.length+(fn.ntmps - args.length)) (T1.at ⟨slotsOf 0 args,hin⟩ z) g (cargs z) (chin z y) (chd z y) ((T2 z).at (T1.at ⟨slotsOf 0 args,hin⟩ z) y).heap)
  (h4: ∀z y,TG p (args.length+(fn.ntmps - args.length)) (T1.at ⟨slotsOf 0 args,hin⟩ z) g (cargs z) (cpin z y) (cpd z y) ((T3 z).at (T1.at ⟨slotsOf 0 args,hin⟩ z) y).heap)
  (h5: ∀z y,(tr true P T (args.length+(fn.ntmps - args.length)) (s3 z y) (hin.map (·.1)) (.fin .ret) ⟨((T2 z).at (T1.at ⟨slotsOf 0 args,hin⟩ z) y).slots,chd z y++(((chin z y).map (·.1)).map (fun i=>(i,none))++((T2 z).at (T1.at ⟨slotsOf 0 args,hin⟩ z) y).heap)⟩ [] [] (.fn T fn.results.toList res hout)).side true=(tr true P T (args.length+(fn.ntmps - args.length)) (s3 z y) (hin.map (·.1)) (.fin .ret) ⟨((T2 z).at (T1.at ⟨slotsOf 0 args,hin⟩ z) y).slots,chd z y++(((chin z y).map (·.1)).map (fun i=>(i,none))++((T2 z).at (T1.at ⟨slotsOf 0 args,hin⟩ z) y).heap)⟩ [] [] (.fn T fn.results.toList res hout)).side false)
  (h6: ∀z y,(tr true P T (args.length+(fn.ntmps - args.length)) (s4 z y) (hin.map (·.1)) (.fin .ret) ⟨((T3 z).at (T1.at ⟨slotsOf 0 args,hin⟩ z) y).slots,cpd z y++(((cpin z y).map (·.1)).map (fun i=>(i,none))++((T3 z).at (T1.at ⟨slotsOf 0 args,hin⟩ z) y).heap)⟩ [] [] (.fn T fn.results.toList res hout)).side true=(tr true P T (args.length+(fn.ntmps - args.length)) (s4 z y) (hin.map (·.1)) (.fin .ret) ⟨((T3 z).at (T1.at ⟨slotsOf 0 args,hin⟩ z) y).slots,cpd z y++(((cpin z y).map (·.1)).map (fun i=>(i,none))++((T3 z).at (T1.at ⟨slotsOf 0 args,hin⟩ z) y).heap)⟩ [] [] (.fn T fn.results.toList res hout)).side false)
  (hd:((tr true P T (args.length+(fn.ntmps - args.length)) s1 (hin.map (·.1)) (go FU (.c p.c) (p.cs.map .sq)) ⟨slotsOf 0 args,hin⟩ [] [] (.jN (T1.at ⟨slotsOf 0 args,hin⟩))).den.bind fun z=>
   (tr true P T (args.length+(fn.ntmps - args.length)) (s2 z) ((T1.at ⟨slotsOf 0 args,hin⟩ z).heap.map (·.1)) (go FU (.c p.k) []) (T1.at ⟨slotsOf 0 args,hin⟩ z) [] [] (.dq pv ((T2 z).at (T1.at ⟨slotsOf 0 args,hin⟩ z)) ((T3 z).at (T1.at ⟨slotsOf 0 args,hin⟩ z)))).den.bind fun s=>match s with
   | .inl y=>(tr true P T (args.length+(fn.ntmps - args.length)) (s3 z y) (hin.map (·.1)) (.fin .ret) ⟨((T2 z).at (T1.at ⟨slotsOf 0 args,hin⟩ z) y).slots,chd z y++(((chin z y).map (·.1)).map (fun i=>(i,none))++((T2 z).at (T1.at ⟨slotsOf 0 args,hin⟩ z) y).heap)⟩ [] [] (.fn T fn.results.toList res hout)).den
   | .inr y=>(tr true P T (args.length+(fn.ntmps - args.length)) (s4 z y) (hin.map (·.1)) (.fin .ret) ⟨((T3 z).at (T1.at ⟨slotsOf 0 args,hin⟩ z) y).slots,cpd z y++(((cpin z y).map (·.1)).map (fun i=>(i,none))++((T3 z).at (T1.at ⟨slotsOf 0 args,hin⟩ z) y).heap)⟩ [] [] (.fn T fn.results.toList res hout)).den)=o):
  gK P f args hin res hout o:=by
 refine⟨fun{r} hr=> ⟨⟨fn,hf,hn,by rw [hb];rfl⟩,fun B0 vs hF hi hrs=> ?_⟩⟩;rw [<-hd]at hr;obtain⟨z,hz,hr⟩:=Option.bind_eq_some_iff.1 hr;obtain⟨s,hz2,hr⟩:=Option.bind_eq_some_iff.1 hr;obtain⟨hcode,hops⟩:=Xr hdf;have hl:=hrs.length;obtain⟨B,hBe⟩: ∃B,B=B0.up:=⟨_,rfl⟩;have hF: ∀k,B.F k->k<B.w.heap.size:=by rw [hBe];exact hF
 have hi:HI B B.ρ B.F B.w (aP hin):=by rw [hBe];exact hi.up
 have hrs:dm B.ρ B.F B.w args vs:=by rw [hBe];exact hrs
 have hmk:B.mb=B.w.heap.size:=by rw [hBe];rfl
 rw [show B0.w=B.w by rw [hBe];rfl];have hid: ∀b p,B.ρ b=some p->b∈hin.map (·.1):=fun b p hbp=>by
  apply cM;intro hnm;have:=hi.fresh b (bL hnm);rw [this]at hbp;cases hbp
 have hconc0:Conc B (args.length+(fn.ntmps - args.length)) (hin.map (·.1)) ⟨slotsOf 0 args,hin⟩ {tmps:=vs.toArray++Array.replicate (fn.ntmps - vs.toArray.size) undef,defers:=[] } B.w:=
  ⟨⟨B.ρ,B.F,⟨rfl,rfl, .refl _,cx _,fun _ _ _=>rfl,fun _ _ h=>h,fun k hk=> ⟨hF k hk, .inl hk⟩,fun _ h=>h⟩,hi,fun t tv ht=>by
   obtain⟨_,v,hv,hr'⟩:=qg hrs t tv ht;refine⟨v, ?_,hr'⟩;rw [Nat.sub_zero]at hv;have hlt:t<vs.length:=by
    rcases Nat.lt_or_ge t vs.length with h|h;·exact h
    ·rw [eL h]at hv;cases hv
   rw [Array.getElem?_append_left (by simpa using hlt)];simpa using hv,Marks.none (Nat.le_of_eq hmk) (by rw [hBe];rfl)⟩,hid,by simp [hl]⟩
 refine callsIn_wide.1 (callsIn_of_wp_marks (F:=Fence.wide) (n:=0) hf hb trivial ?_);rw [hcode];have hA:=go_ok (n:=FU) (x:= .c p.c) (K:=p.cs.map .sq) (Cn (rd:=none) (q:=true) (B:=B) (fun _=>rfl) hT hm s1 (Tr.lU h1) trivial hz);refine JJ hA hconc0 fun a1 w1 hc1=> ?_;obtain⟨⟨ρ,F,fr1,hi1,hs1,mk1⟩,hid1,sz1⟩:=hc1;have hplace: ∃cvs,EJ (T1.at ⟨slotsOf 0 args,hin⟩ z) p.l=some cvs/\get (T1.at ⟨slotsOf 0 args,hin⟩ z).slots p.t=none/\p.t<args.length+(fn.ntmps - args.length):=by
  have key: ∀{a b c:List (Nat × Option Ob)} {g:Nat} {xs:List SV},TG p (args.length+(fn.ntmps - args.length)) (T1.at ⟨slotsOf 0 args,hin⟩ z) g xs a b c-> ∃cvs,EJ (T1.at ⟨slotsOf 0 args,hin⟩ z) p.l=some cvs/\get (T1.at ⟨slotsOf 0 args,hin⟩ z).slots p.t=none/\p.t<args.length+(fn.ntmps - args.length):=fun{a b c g xs} h=>by
   obtain⟨hk1,_⟩:=h;unfold Sn at hk1;split at hk1
   ·rename_i cvs _ e1 e2 _;rw [cd,cd]at hk1;exact⟨cvs,e1,e2,cj hk1.2.1⟩
   ·cases hk1
  cases s with
  |inl y=>exact key (h3 z y)
  |inr y=>exact key (h4 z y)
 obtain⟨cvs,hcap,hg0,hpt⟩:=hplace;have hpl: ∀{a b c:List (Nat × Option Ob)} {xs:List SV},TG p (args.length+(fn.ntmps - args.length)) (T1.at ⟨slotsOf 0 args,hin⟩ z) g xs a b c->p.g=g/\cvs.map SV.one=xs/\bJ (a.map (·.1)) ((a.map (·.1)++b.map (·.1)).map (aP c))=some a/\
   (bZ ((cvs.map SV.one).flatMap SV.bP) (a.map (·.1)) && bZ (dF (((a.map (·.1)++b.map (·.1)).map (aP c)).take (a.map (·.1)).length)) (a.map (·.1)) && fE (a.map (·.1)) (b.map (·.1)) (((a.map (·.1)++b.map (·.1)).map (aP c)).drop (a.map (·.1)).length))=true:=fun{a b c xs} h=>by
  obtain⟨hk1,hk2⟩:=h;unfold Sn at hk1;unfold YK at hk2;cases hzip:bJ (a.map (·.1)) ((a.map (·.1)++b.map (·.1)).map (aP c))with
  |none=>rw [hcap,hg0,hzip]at hk1;simp at hk1
  |some hh=>
   rw [hcap,hg0,hzip]at hk1;rw [hcap,hzip]at hk2;simp only at hk1 hk2;rw [cd,cd,cd]at hk1;obtain⟨k1,k2,k3,k4⟩:=hk1;have e0:=hk2.1;simp only [Ck.st.injEq,St.mk.injEq,List.cons.injEq,Prod.mk.injEq,TV.eB.injEq,true_and,and_true]at e0;obtain⟨e1,e2⟩:=e0;exact⟨(bv k1).symm,e1,by rw [e2],k4⟩
 refine wpIn_seq ?_;refine Oy hops (by rw [sz1];exact hpt) ?_;show p.k.wpIn (FW none) 0 P _ _ _;have hv:=GX hs1 hcap;have hB2:=go_ok (n:=FU) (x:= .c p.k) (K:=[]) (Cn (rd:=none) (q:=true) (B:=B.re w1 ρ F ({target:= .fn (.func p.g) (p.l.map a1.eval).toArray,args:= #[] }::a1.defers)) (fun _=>rfl) hT hm (s2 z) (Tr.lU (h2 z)) trivial hz2);refine wpIn_mono (jC (eH hB2 fun e st hq=>hq) _ _ (Ud _ hi1 fr1 hs1 sz1 hg0)) ?_;rintro e a2 w2 ⟨st2,hq,hc2⟩;cases s with
 |inl y=>
  obtain⟨he,rfl⟩:=hq;obtain⟨q1,q2,q3,q4⟩:=hpl (h3 z y);have hend:=Cn (rd:=none) (q:=true) (B:=B) (fun _=>rfl) hT hm (s3 z y) (Tr.lU (h5 z y)) trivial hr;have hcl:=cl z y;rw [<-q1,<-q2]at hcl;have:=Ho hT (u:= .returning) (by simp) rfl hBe hF fr1 mk1 hv hid hc2 q3 q4 hcl hend;rcases he with rfl|rfl<;>exact this
 |inr y=>
  obtain⟨rfl,rfl⟩:=hq;obtain⟨q1,q2,q3,q4⟩:=hpl (h4 z y);have hend:=Cn (rd:=none) (q:=true) (B:=B) (fun _=>rfl) hT hm (s4 z y) (Tr.lU (h6 z y)) trivial hr;have hcl:=clp z y;rw [<-q1,<-q2]at hcl;exact Ho hT (u:= .panicking [{v:=pv,recovered:=false}]) (by simp) rfl hBe hF fr1 mk1 hv hid hc2 q3 q4 hcl hend
end
def OP {α:Type} [Inhabited α] (c:α->Nat->DV) (r:α->EV) (i0 j0:Nat) (l:List α):Nat->Nat->EV:=fun i j=>bif Nat.beq i i0 && Nat.beq j j0 then r (at' l i)else .d (c (at' l i) j)
theorem Ve {α:Type} [Inhabited α] (c:α->Nat->DV) (r:α->EV) (i0 j0:Nat) (l:List α) (n esz:Nat) (v:EV) (x:α) (hn:n=l.length) (hr:r x=v) (h: ∀j,j<esz->j=j0\/c x j=c (at' l i0) j):
  FV n esz (Nw (OP c r i0 j0 l) i0 j0 v) (OP c r i0 j0 (l.set i0 x)):=by
 intro i hi j hj;unfold Nw OP;by_cases e:i=i0
 ·subst e;have hx:at' (l.set i x) i=x:=by simp [at',show i<l.length by omega]
  rw [hx,show Nat.beq i i=true from Nat.beq_refl i,cP];by_cases ej:j=j0
  ·subst ej;rw [ci ⟨rfl,rfl⟩,show Nat.beq j j=true from Nat.beq_refl j,bt,hr]
  ·rw [ce (fun q=>ej q.2)];have hb:Nat.beq j j0=false:=by
    cases hq:Nat.beq j j0 with
    |false=>rfl
    |true=>exact absurd (bv hq) ej
   rw [hb,bu,bu];rcases h j hj with q|q;·exact absurd q ej
   ·rw [q]
 ·rw [ce (fun q=>e q.1)];have hx:at' (l.set i0 x) i=at' l i:=by simp [at',List.getElem?_set,show ¬ i0=i from fun q=>e q.symm]
  rw [hx]
theorem Ww {α:Type} [Inhabited α] (c:α->Nat->DV) (r:α->EV) (i0 j0:Nat) (l:List α) (n:Nat) {esz:Nat} (h: ∀x,Dg (r x)=c x j0): ∀i,i<n-> ∀j,j<esz->lQ (Dg (OP c r i0 j0 l i j)) (aj c l i j):=by
 intro i _ j _;unfold OP aj;cases hb:(Nat.beq i i0 && Nat.beq j j0)with
 |false=>exact .refl _
 |true=>
  rw [cd]at hb;rw [bt,h,bv hb.2];exact .refl _
def aa5 (x:DV) (y:EV):Prop:=(∃z,y= .d z/\lQ x z)\/((∃E e g,y= .row E e 0 g)/\ ∃e f,x= .sl (some false) e 0 f)
theorem Tj {E esz n:Nat} {el:Nat->Nat->DV} {el':Nat->Nat->EV} (h: ∀i,i<n-> ∀j,j<esz->aa5 (el i j) (el' i j)):G6 (some (.arr E esz n el)) (some (.rows E esz n el' none)):=by
 intro ρ F w S b hr;rcases hr with hr|⟨k,base,cap,h1,h0,vs,h2,h3,h4,h5,h6⟩;·exact .inl hr
 ·refine .inr ⟨k,base,cap,vs,fun _ _=>none,h1,h0,h2,h3,h4,h5,fun i hi j hj=> ?_,fun _ _ _ _ _ e _=>(by cases e),fun _ _ e=>(by cases e)⟩;obtain⟨u,hu,hr⟩:=h6 i hi j hj;refine⟨u,hu, ?_⟩;show fC F w S none (el' i j) u;rcases h i hi j hj with⟨z,e,hz⟩|⟨⟨E',e',g,e⟩,e1,f1,e2⟩
  ·rw [e];exact hz F w u hr
  ·rw [e];rw [e2]at hr;obtain⟨a,cp,hv,_,g2,g3,_,_⟩:=hr;have ha:=g2 rfl;refine .inl ⟨rfl, ?_⟩;rw [hv,ha,(g3 ha).2]
section
variable {B:Base} {N:Nat} {L:List Nat} {st:St}
theorem jl.acg {b E esz n:Nat} {el:Nat->Nat->EV} (hb:get st.heap b=some (some (.rows E esz n el none))):
  jl B N L st ⟨st.slots,(b,some (.arr E esz n fun i j=>Dg (el i j)))::st.heap⟩:=by
 intro a w hconc;obtain⟨⟨ρ,F,hfr,⟨ft,hi⟩,hs,dn⟩,hid,sz⟩:=hconc;have hu: ∀x,aP ((b,some (.arr E esz n fun i j=>Dg (el i j)))::st.heap) x=if b=x then some (some (.arr E esz n fun i j=>Dg (el i j)))else aP st.heap x:=fun x=>by simp only [aP];rw [aC]
 obtain⟨rb,hrep⟩: ∃rb:Nat->Nat->Option Nat,∀F':Nat->Prop,(∀q,F' q↔F q\/(ft b q/\ ∃i j,rb i j=some q))->ig ρ F' w (fun q=>ft b q/\ ∀i j,rb i j≠some q) b (.arr E esz n fun i j=>Dg (el i j)):=by
  rcases hi.obj b _ hb with hn|⟨k,base,cap,vs,rb,m1,m0,m2,m3,m4,m5,m6,m7,m8⟩;·exact⟨fun _ _=>none,fun F' _=> .inl hn⟩
  ·refine⟨rb,fun F' hF'=> .inr ⟨k,base,cap,m1,⟨m0,m8⟩,vs,m2,m3,m4,m5,fun i hi' j hj=> ?_⟩⟩;obtain⟨u,hu',hr⟩:=m6 i hi' j hj;refine⟨u,hu', ?_⟩;have hr:fC F w (ft b) (rb i j) (el i j) u:=hr;have hg: ∀q,F q->F' q:=fun q h=>(hF' q).2 (.inl h);cases hel:el i j with
   |d x=>
    rw [hel]at hr;show bG F' w (Dg (el i j)) u;rw [hel];exact bG.gr hg (fun _ _=>rfl) hr
   |row E2 e2 n2 f2=>
    rw [hel]at hr;show bG F' w (Dg (el i j)) u;rw [hel];show bG F' w (.sl none e2 n2 f2) u;rcases hr with⟨n0,e4⟩|⟨q,bq,cq,q1,q2,q3,vs2,q4,q5,q6,q7,q8⟩;·exact⟨none,0,by rw [e4,n0],(fun h=>by cases h),(fun h=>by cases h),fun _=> ⟨n0,rfl⟩,by rw [n0];exact cx _,fun ad h=>by cases h⟩
    ·refine⟨some ⟨q,bq,none⟩,cq,q3,(fun h=>by cases h),(fun h=>by cases h),(fun h=>by cases h),q6,fun ad h=> ?_⟩;cases h;refine⟨fun _=>rfl,fun i' hi2 j' hj'=> ⟨(hF' q).2 (.inr ⟨q2,i,j,q1⟩), ?_⟩⟩;obtain⟨u2,hu1,hu2⟩:=q8 i' hi2 j' hj';exact⟨u2,by simp only [World.cell?,q4];simpa using hu1,bG.gr hg (fun _ _=>rfl) hu2⟩
 obtain⟨F',hF'⟩: ∃F':Nat->Prop,∀q,F' q↔F q\/(ft b q/\ ∃i j,rb i j=some q):=⟨_,fun _=>Iff.rfl⟩;have hrep:=hrep F' hF';have g:Gr ρ F w ρ F' w:=⟨fun _ _ h=>h,fun q h=>(hF' q).2 (.inl h),fun _ _=>rfl⟩;have hfr':Fr B ρ F' w:={hfr with
  fz:=fun q hq=>by
   rcases(hF' q).1 hq with h|⟨h,_⟩;·exact hfr.fz q h
   ·obtain⟨h1,_,h2⟩:=hi.blk b _ q hb h;exact⟨h1, .inr h2⟩
  bf:=fun q hq=>(hF' q).2 (.inl (hfr.bf q hq))}
 refine⟨⟨ρ,F',hfr',⟨qa ft b fun q=>ft b q/\ ∀i j,rb i j≠some q, ?_⟩,fun t tv ht=> ?_,dn.gr g⟩,hid,sz⟩
 ·refine hi.step g hfr (cx _) (fun x=>x=b) (fun x ob' e hh=> ?_) (fun x ob' e hh=> ?_) (fun x ob' q e hh hf=> ?_) (fun b1 b2 o1 o2 q e1 e2 _ _ _ _=>e1.trans e2.symm) (fun q hq=> ?_) fun x hh=> ?_
  ·rw [hu,ce (Ne.symm e)]at hh;exact⟨hh,fun _ _=>rfl,fun q=>by rw [eY e]⟩
  ·subst e;rw [hu,ci rfl]at hh;cases hh;rw [bB];exact hrep
  ·subst e;rw [bB]at hf;exact .inl ⟨x,_,rfl,hb,hf.1⟩
  ·rcases(hF' q).1 hq with h|⟨h,i,j,hi'⟩
   ·exact .inl h
   ·refine .inr (.inl ⟨⟨b,_,rfl,hb,h⟩,fun x ob e _ hf=> ?_⟩);subst e;rw [bB]at hf;exact hf.2 i j hi'
  ·rw [hu]at hh;split at hh
   ·cases hh
   ·exact hi.fresh x hh
 ·obtain⟨v,hv,hr⟩:=hs t tv ht;exact⟨v,hv,hr.gr g⟩
end
def IS.rf (b E esz n:Nat) (el:Nat->Nat->EV):IS where
 act st:=match get st.heap b with|some x=>[.ob x]|none=>[.b false]
 want _:=[.ob (some (.rows E esz n el none))]
 nxt st:=⟨st.slots,(b,some (.arr E esz n fun i j=>Dg (el i j)))::st.heap⟩
 ok B N L st hs:=by
  split at hs
  ·rename_i x h1;simp only [List.cons.injEq,Ck.ob.injEq,and_true]at hs;subst hs;exact jl.acg h1
  ·simp at hs
end Sg
