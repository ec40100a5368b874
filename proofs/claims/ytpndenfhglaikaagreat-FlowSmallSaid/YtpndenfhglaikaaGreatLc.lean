import Derived.Test.YtpndenfhglaikaaGreatLb
import Derived.RangeFuncIn
import Derived.RangeFuncRecord
import Derived.LoopNIn
import Derived.Deep.Slices
import Derived.OpenShut
import Derived.Carry
import Derived.Maps.RangeRun
set_option linter.all false
namespace Sg
open Go
section
variable {rd:Option Nat} {P:Program} {B:Base} {N:Nat} {L:List Nat} {T:List (Nat × TI)} {Q:Exit→St→Prop} {st st' st'':St}
def d9 (B:Base) (N:Nat) (L:List Nat) (st st':St):Prop:= ∀a w,Conc B N L st a w→Conc B N L st' a w
theorem d9.refl:d9 B N L st st:=fun _ _ h=>h
theorem d9.trans (h:d9 B N L st st') (h':d9 B N L st' st''):d9 B N L st st'':=fun a w hc=>h' a w (h a w hc)
theorem d9.le (h:agf st st'):d9 B N L st st':=fun _ _ hc=>hc.le h
theorem d9.fin (fin:Fin) (ts:List Nat) {cs:List Prop} (he:finish L fin ts [] (Ak st)=some (cs,st')) (hc:All cs):d9 B N L st st':=
 fun _ _ hconc=>xg (yb:=fun _=>false) he hc (yZ hconc) hconc.ids
theorem xk {c:Code} (h:d9 B N L st st') (hw:jE rd P B N L c Q st'):jE rd P B N L c Q st:=fun a w hc=>hw a w (h a w hc)
theorem ow {c:Code} (hw:jE rd P B N L c (fun e s=> ∃s',d9 B N L s s'∧Q e s') st):jE rd P B N L c Q st:=
 fun a w hc=>wpIn_mono (hw a w hc) fun _ a' w' ⟨_,⟨s',hi,hq⟩,h2⟩=> ⟨s',hq,hi a' w' h2⟩
theorem D8 (hT:su P T) {id:Nat} {ops:Array Oper} (st1:St) (x:DZ) {cs:List Prop} (he:Nv (GX P) T ops N L x st=some (cs,st1)) (hc:All cs) (hi:d9 B N L st1 st') (hQ:Q .normal st'):jE rd P B N L (.region id ops false) Q st:=
 ow (I9 hT x he hc ⟨_,hi,hQ⟩)
theorem Ff (hT:su P T) (hm:P.follows .mixedOrders=true) {id:Nat} {ops:Array Oper} (st1:St) (x:DZ) (cl:List (Nat × List Nat)) {cs:List Prop} (he:Ol (GX P) T ops N L x cl st=some (cs,st1)) (hc:All cs) (hi:d9 B N L st1 st') (hQ:Q .normal st'):
  jE rd P B N L (.region id ops true) Q st:=
 ow (zS hT hm x cl he hc ⟨_,hi,hQ⟩)
theorem d9.ZJ {t b:Nat} {esz0:Nat} {el0:Nat→Nat→DV} {ob:Ob} (hob: ∀ρ F w S,ρ b=some .nil→nU ρ F w S b ob) (ht:get st.slots t=some (.v (.one (.d (.sl (some false) esz0 0 el0))))) (hb:get st.heap b=none):
  d9 B N L st ⟨(t, .v (.one (.own b false 0)))::st.slots,(b,some ob)::st.heap⟩:=by
 intro a w hc
 obtain⟨⟨ρ,F,hfr,hhi,hs,dn⟩,hid,sz⟩:=hc
 have hρ:=hhi.fresh b hb
 have hn:=hhi.Rf hfr (b:=b) (nob:=ob) hb (hob _ _ _ _ (aH _ _))
 have g:Gr ρ F w (dS ρ b .nil) F w:=⟨bP hρ,fun _ h=>h,fun _ _=>rfl⟩
 have hhp:upd (bU st.heap) [(b,some ob)]=bU ((b,some ob)::st.heap):=by
  funext x;rw [tV];simp only [bU];rw [aJ]
 rw [hhp]at hn
 refine⟨⟨dS ρ b .nil,F,{hfr with rho:=fun b' p' e=>bP hρ b' p' (hfr.rho b' p' e)},hn,fun t' tv ht'=> ?_,dn⟩,hid,sz⟩
 rw [aJ]at ht'
 split at ht'
 ·rename_i e
  cases ht';subst e
  obtain⟨v,hv,hr⟩:=hs t _ ht
  obtain⟨ad,cap,e1,_,h2,h3,_⟩:=hr
  have:=h2 rfl;subst this
  obtain⟨_,rfl⟩:=h3 rfl
  exact⟨v,hv, .inr ⟨rfl,aH _ _,rfl,e1⟩⟩
 ·obtain⟨v,hv,hr⟩:=hs t' tv ht'
  exact⟨v,hv,hr.gr g⟩
theorem d9.WH {t b E esz:Nat} {esz0:Nat} {el0 el:Nat→Nat→DV} (ht:get st.slots t=some (.v (.one (.d (.sl (some false) esz0 0 el0))))) (hb:get st.heap b=none):
  d9 B N L st ⟨(t, .v (.one (.own b false 0)))::st.slots,(b,some (.arr E esz 0 el))::st.heap⟩:=d9.ZJ (fun _ _ _ _ h=> .inl ⟨h,rfl⟩) ht hb
theorem d9.xY {p q b E esz:Nat} {E0:TypeId} {cs:List CV} {esz0:Nat} {el0:Nat→Nat→DV} {ob:Ob} (hob: ∀ρ F w S,ρ b=some .nil→nU ρ F w S b ob) (hp:get st.heap p=some (some (.cells E0 cs))) (hq:cs[q]? =some (.d (.sl (some false) esz0 0 el0))) (hb:get st.heap b=none):
  d9 B N L st ⟨st.slots,(p,some (.cells E0 (cs.set q (.own b false 0))))::(b,some ob)::st.heap⟩:=by
 intro a w hc
 obtain⟨⟨ρ,F,hfr,hhi,hs,dn⟩,hid,sz⟩:=hc
 have hρ:=hhi.fresh b hb
 have hn:=hhi.Rf hfr (b:=b) (nob:=ob) hb (hob _ _ _ _ (aH _ _))
 have g:Gr ρ F w (dS ρ b .nil) F w:=⟨bP hρ,fun _ h=>h,fun _ _=>rfl⟩
 have hhp:upd (bU st.heap) [(b,some ob)]=bU ((b,some ob)::st.heap):=by
  funext x;rw [tV];simp only [bU];rw [aJ]
 rw [hhp]at hn
 have hpb:p≠b:=fun e=>by rw [e,hb]at hp;cases hp
 refine⟨⟨dS ρ b .nil,F,{hfr with rho:=fun b' p' e=>bP hρ b' p' (hfr.rho b' p' e)}, ?_,fun t' tv ht'=> ?_,dn⟩,hid,sz⟩
 ·obtain⟨ft,hn⟩:=hn
  have hp':bU ((b,some ob)::st.heap) p=some (some (.cells E0 cs)):=by simp only [bU];rw [aJ,if_neg (Ne.symm hpb)];exact hp
  have hu: ∀x,bU ((p,some (.cells E0 (cs.set q (.own b false 0))))::(b,some ob)::st.heap) x=if p=x then some (some (.cells E0 (cs.set q (.own b false 0))))else bU ((b,some ob)::st.heap) x:=fun x=>by simp only [bU];rw [aJ]
  have hex: ∀x ox,bU ((p,some (.cells E0 (cs.set q (.own b false 0))))::(b,some ob)::st.heap) x=some (some ox)→ ∃ox0,bU ((b,some ob)::st.heap) x=some (some ox0):=fun x ox hh=>by
   rw [hu]at hh;split at hh
   ·rename_i e;subst e;exact⟨_,hp'⟩
   ·exact⟨_,hh⟩
  refine⟨ft,fun x ox hh=> ?_,fun x ox k hh hf=> ?_,fun x y ox oy k h1 h2=> ?_,fun x hh=> ?_⟩
  ·rw [hu]at hh;split at hh
   ·rename_i e;subst e;cases hh
    obtain⟨k,cap,vs,x1,x0,x2,x3⟩:=hn.obj p _ hp'
    refine⟨k,cap,vs,x1,x0,x2,cu.tK (by rw [x3.length,List.length_set]) fun j c hj=> ?_⟩
    rw [List.getElem?_set]at hj
    split at hj
    ·rename_i e;subst e
     split at hj
     ·cases hj
      obtain⟨u,hu',hr⟩:=x3.get hq
      refine⟨u,hu', ?_⟩
      obtain⟨ad,cap',e1,_,h2,h3,_⟩:=hr
      have:=h2 rfl;subst this
      obtain⟨_,rfl⟩:=h3 rfl
      exact .inr ⟨rfl,aH _ _,rfl,e1⟩
     ·cases hj
    ·exact x3.get hj
   ·exact hn.obj x ox hh
  ·obtain⟨ox0,h0⟩:=hex x ox hh;exact hn.blk x ox0 k h0 hf
  ·obtain⟨o1,g1⟩:=hex x ox h1
   obtain⟨o2,g2⟩:=hex y oy h2
   exact hn.dis x y o1 o2 k g1 g2
  ·rw [hu]at hh;split at hh
   ·cases hh
   ·exact hn.fresh x hh
 ·obtain⟨v,hv,hr⟩:=hs t' tv ht'
  exact⟨v,hv,hr.gr g⟩
theorem d9.ob {b:Nat} {x y:Ob} (hb:get st.heap b=some (some x)) (hxy: ∀ρ F w S,nU ρ F w S b x→nU ρ F w S b y):d9 B N L st ⟨st.slots,(b,some y)::st.heap⟩:=by
 intro a w hc
 obtain⟨⟨ρ,F,hfr,⟨ft,hi⟩,hs,dn⟩,hid,sz⟩:=hc
 have hu: ∀c,bU ((b,some y)::st.heap) c=if b=c then some (some y)else bU st.heap c:=fun c=>by simp only [bU];rw [aJ]
 have hex: ∀c oc,bU ((b,some y)::st.heap) c=some (some oc)→ ∃oc0,bU st.heap c=some (some oc0):=fun c oc hh=>by
  rw [hu]at hh;split at hh
  ·rename_i e;subst e;exact⟨_,hb⟩
  ·exact⟨_,hh⟩
 refine⟨⟨ρ,F,hfr,⟨ft,fun c oc hh=> ?_,fun c oc k hh hf=> ?_,fun c d oc od k h1 h2=> ?_,fun c hh=> ?_⟩,hs,dn⟩,hid,sz⟩
 ·rw [hu]at hh;split at hh
  ·rename_i e;subst e;cases hh;exact hxy _ _ _ _ (hi.obj b x hb)
  ·exact hi.obj c oc hh
 ·obtain⟨o0,h0⟩:=hex c oc hh;exact hi.blk c o0 k h0 hf
 ·obtain⟨o1,g1⟩:=hex c oc h1
  obtain⟨o2,g2⟩:=hex d od h2
  exact hi.dis c d o1 o2 k g1 g2
 ·rw [hu]at hh;split at hh
  ·cases hh
  ·exact hi.fresh c hh
theorem d9.M7 {b E esz len:Nat} {el:Nat→Nat→DV} {el':Nat→Nat→EV} (hb:get st.heap b=some (some (.arr E esz len el))) (h: ∀i,i<len→ ∀j,j<esz→SC (el i j) (el' i j)):d9 B N L st ⟨st.slots,(b,some (.rows E esz len el' none))::st.heap⟩:=by
 refine d9.ob hb fun ρ F w S hr=> ?_
 rcases hr with hr|⟨k,base,cap,x1,x0,vs,x2,x3,x4,x5,x6⟩
 ·exact .inl hr
 ·refine .inr ⟨k,base,cap,vs,fun _ _=>none,x1,x0,x2,x3,x4,x5,fun i hi j hj=> ?_,(fun _ _ _ _ _ e=>by cases e),(fun _ _ e=>by cases e)⟩
  obtain⟨u,hu,hr⟩:=x6 i hi j hj
  exact⟨u,hu,(h i hi j hj).UG hr⟩
theorem uZ {a b:Nat} (h:a≠b):Nat.beq a b=false:=by
 cases hb:Nat.beq a b with
 |true=>exact absurd (Nat.eq_of_beq_eq_true hb) h
 |false=>rfl
theorem JO {id:Nat} {c:Code} (h:jE rd P B N L c (fun e st'=>match e with| .exit id'=>bif Nat.beq id' id then Q .normal st' else Q (.exit id') st'|e=>Q e st') st):jE rd P B N L (.block id c) Q st:=by
 refine LJ (iQ h fun e st' hh=> ?_)
 cases e with
 |exit id'=>
  simp only at hh ⊢
  split
  ·rename_i e;subst e;simpa using hh
  ·rename_i e;rw [show Nat.beq id' id=false from uZ e]at hh;exact hh
 |normal=>exact hh
 |goto l=>exact hh
 |ret=>exact hh
 |panic c=>exact hh
 |outgrown=>exact hh
def GI {β X:Type} (K1:β→Prop) (K2:X→Prop):Ex β X→Prop
 | .brk z=>K1 z
 | .ret v=>K2 v
def avoid (av:List Nat):Exit→Prop
 | .exit i=>jb i av=false
 |_=>True
def LQ {σ β X:Type} (b:Nat) (av:List Nat) (S:σ→St) (Sb:β→St) (Qo:X→Exit→St→Prop):aM σ (Ex β X)→Exit→St→Prop
 | .next s,e,st=>e= .normal∧st=S s
 | .done (.brk z),e,st=>e= .exit b∧st=Sb z
 | .done (.ret v),e,st=>e≠ .normal∧e≠ .exit b∧avoid av e∧Qo v e st
theorem KJ {σ β X:Type} {b:Nat} {c:Code} (av:List Nat) (S:σ→St) (Sb:β→St) (Qo:X→Exit→St→Prop) {body:σ→Option (aM σ (Ex β X))} {n:Nat} {s:σ} {o:Ex β X} (h:ay body n s=some o)
  (hb: ∀s f,body s=some f→jE rd P B N L c (LQ b av S Sb Qo f) (S s))
  (hk:GI (fun z=> ∃s',d9 B N L (Sb z) s'∧Q .normal s') (fun v=> ∀e st',e≠ .normal→avoid av e→Qo v e st'→Q e st') o):jE rd P B N L (.block b (.loop c)) Q (S s):=by
 refine ow ?_
 refine QZ (fun e st'=>LQ b av S Sb Qo (.done o) e st') (Lh S (fun r e st'=>LQ b av S Sb Qo (.done r) e st') h fun s f hf=>iQ (hb s f hf) fun e st' hq=> ?_) fun e st' hR=> ?_
 ·cases f with
  |next s'=>exact hq
  |done r=>
   refine⟨?_,hq⟩
   cases r with
   |brk z=>obtain⟨rfl,_⟩:=hq;exact Exit.noConfusion
   |ret v=>exact hq.1
 ·cases o with
  |brk z=>
   obtain⟨rfl,rfl⟩:=hR
   simp only [if_true]
   exact hk
  |ret v=>
   obtain⟨h1,h2,h4,h3⟩:=hR
   cases e with
   |normal=>exact absurd rfl h1
   |exit id=>
    simp only
    rw [if_neg (fun hh=>h2 (by rw [hh]))]
    exact⟨_, .refl,hk _ _ h1 h4 h3⟩
   |goto l=>exact⟨_, .refl,hk _ _ h1 h4 h3⟩
   |ret=>exact⟨_, .refl,hk _ _ h1 h4 h3⟩
   |panic c=>exact⟨_, .refl,hk _ _ h1 h4 h3⟩
   |outgrown=>exact⟨_, .refl,hk _ _ h1 h4 h3⟩
theorem Y2 {σ β X:Type} {b:Nat} {av:List Nat} {S:σ→St} {Sb:β→St} {Qo:X→Exit→St→Prop} {s:σ} (h:st=S s):LQ b av S Sb Qo (.next s) .normal st:=⟨rfl,h⟩
theorem Zy {σ β X:Type} {b:Nat} {av:List Nat} {S:σ→St} {Sb:β→St} {Qo:X→Exit→St→Prop} {z:β} (h:st=Sb z):LQ b av S Sb Qo (.done (.brk z)) (.exit b) st:=⟨rfl,h⟩
theorem Q9 {i b:Nat} {av:List Nat} (h:avoid av (.exit i)) (hb:jb b av=true):Nat.beq i b=false:=by
 cases hh:Nat.beq i b with
 |false=>rfl
 |true=>have:=Nat.eq_of_beq_eq_true hh;subst this;have h':jb i av=false:=h;rw [hb]at h';cases h'
end
theorem Yh {E esz n m:Nat} {f:Nat→Nat→DV} (h:n=m):Ny (some (.arr E esz n f)) (some (.arr E esz m f)):=h ▸ .refl _
theorem bH {E:TypeId} {cs ds:List CV} (h:NI cs ds):Ny (some (.cells E cs)) (some (.cells E ds)):=by
 rintro ρ F w S b ⟨k,cap,vs,h1,h0,h2,h3⟩
 exact⟨k,cap,vs,h1,h0,h2,h.UG h3⟩
def CB:Code→Exit
 | .exit id=> .exit id
 | .goto l=> .goto l
 |_=> .ret
def Eu:Code→Bool
 | .ret| .exit _| .goto _=>true
 |_=>false
def Kh (outs:List Code) (st:Nat) (e:Exit):Prop:=(st=0∧e= .normal)∨ ∃k c,st=k+2∧outs[k]? =some c∧Eu c=true∧e=CB c
theorem Kh.zero {outs:List Code} {st:Nat} (h:st=0):Kh outs st .normal:= .inl ⟨h,rfl⟩
theorem Kh.out {outs:List Code} {st k:Nat} {c:Code} (h:st=k+2) (hc:outs[k]? =some c) (ho:Eu c=true):Kh outs st (CB c):= .inr ⟨k,c,h,hc,ho,rfl⟩
theorem aej {w:World} {k:Nat} (o:Obj):Put w (w.putObj k o) k:=⟨by simp,fun j hj=>World.putObj_heap_other hj,rfl,rfl,rfl,Nat.le_refl _⟩
section
variable {P:Program} {B:Base} {N:Nat} {L:List Nat} {T:List (Nat × TI)} {Q:Exit→St→Prop} {st:St}
def Xk:TV→Option (FuncId × List CV × List CV)
 | .v (.one (.d (.fn f n cap)))=>some (f,[],takeC cap 0 n)
 | .v (.one (.fn f nf n cap))=>bif Nat.ble nf n then some (f,iD cap 0 nf,iD cap nf (n - nf))else none
 |_=>none
theorem U2 {ρ:Nat→Option Pl} {F:Nat→Prop} {w:World} {tv:TV} {f:FuncId} {c1 c2:List CV} {v:Value} (h:Xk tv=some (f,c1,c2)) (hr:cK ρ F w tv v): ∃v1 v2:List Value,v= .func (.func f) v1.toArray v2.toArray∧cu ρ F w c1 v1∧cu ρ F w c2 v2:=by
 unfold Xk at h
 split at h
 ·rename_i g n cap
  cases h
  obtain⟨vs,hv,hn,hcap⟩:=hr
  refine⟨[],vs,hv,trivial,cu.tK (by rw [oK,hn]) fun j c hj=> ?_⟩
  obtain⟨hlt,rfl⟩:=vF cap 0 n j c hj
  have hg:=List.getElem?_eq_getElem (l:=vs) (i:=j) (by omega)
  exact⟨_,hg,by rw [Nat.zero_add];exact hcap j _ hg⟩
 ·rename_i g nf n cap
  cases hb:Nat.ble nf n with
  |false=>simp [hb]at h
  |true=>
   simp only [hb,cond_true]at h
   cases h
   have hle:=Nat.le_of_ble_eq_true hb
   obtain⟨vs,hv,hn,hcap⟩:=hr
   refine⟨vs.take nf,vs.drop nf,hv,cu.tK (by rw [rV];simp;omega) fun j c hj=> ?_,cu.tK (by rw [rV];simp;omega) fun j c hj=> ?_⟩
   ·obtain⟨hlt,rfl⟩:=yj cap 0 nf j c hj
    have hg:=List.getElem?_eq_getElem (l:=vs) (i:=j) (by omega)
    exact⟨_,by rw [List.getElem?_take,if_pos hlt];exact hg,by rw [Nat.zero_add];exact hcap j _ hg⟩
   ·obtain⟨hlt,rfl⟩:=yj cap nf (n - nf) j c hj
    have hg:=List.getElem?_eq_getElem (l:=vs) (i:=nf+j) (by omega)
    exact⟨_,by rw [List.getElem?_drop];exact hg,hcap (nf+j) _ hg⟩
 ·cases h
theorem Iz: ∀(cs:List CV),nI (cs.map fun c=> .v (.one c))=some (cs.map .one)
 |[]=>rfl
 |c::cs=>by simp [nI,Iz cs]
theorem Cn {g:Operand} {gv:TV} {ps:List Nat} {assign body:Code} (lb:Nat) (sl:List (Nat × TV)) (outs:List Code) (ids:List Nat) {f:FuncId} {c1 c2:List CV} {hin:List (Nat × Option Ob)} (res:TV) (hout:List (Nat × Option Ob)) {stt:Nat} {r':iG} {sl':List (Nat × TV)} {e:Exit}
  (hg:BZ st g=some gv) (hf:Xk gv=some (f,c1,c2)) (hlb:get st.heap lb=none) (hsl: ∀p∈sl,get st.slots p.1=some p.2)
  (hin1:dH ids (ids.map (bU ((lb,some (.loop ⟨ps,assign,body,N,outs⟩ 0 sl))::st.heap)))=some hin)
  (hok:(mZ ((c1++CV.yl lb::c2).flatMap CV.eX) ids && mZ (jJ (ids.map (bU ((lb,some (.loop ⟨ps,assign,body,N,outs⟩ 0 sl))::st.heap)))) ids && kJ ids (hout.map (·.1)) ((hout.map (·.1)).map (bU ((lb,some (.loop ⟨ps,assign,body,N,outs⟩ 0 sl))::st.heap))))=true)
  (hfn:Fn P f ((c1++CV.yl lb::c2).map .one) hin res hout) (hlo:get hout lb=some (some (.loop r' stt sl'))) (hr':r'.outs=outs) (hx:Kh outs stt e)
  (hQ:Q e ⟨st.slots,(lb,none)::(hout++(ids.map (fun i=>(i,none))++st.heap))⟩):jE none P B N L (.rangeFunc g ps.toArray assign body) Q st:=by
 intro a w hc
 obtain⟨⟨ρ,F,hfr,hi,hs,dn⟩,hid,sz⟩:=hc
 refine wpIn_rangeFunc ?_
 intro fn _
 obtain⟨v1,v2,hv,hr1,hr2⟩:=U2 hf (NG hs hg)
 let W0:=w.alloc (.deferred (some []))
 let W1:=W0.alloc (.loop {state:= .ready,pending:=none,fn,tmps:=a.tmps,params:=ps.toArray,assign,body,defers:=w.heap.size})
 have hent:(Instr.enterLoop fn a.tmps ps.toArray assign body (FW none).round).run P w= .ok (w.heap.size+1,[{target:= .collected w.heap.size,args:= #[] }]) W1:=run_enterLoop_outer _ _ _ _ _
 have p0:=Push.alloc w (.deferred (some []))
 have p1:=Push.alloc W0 (.loop {state:= .ready,pending:=none,fn,tmps:=a.tmps,params:=ps.toArray,assign,body,defers:=w.heap.size})
 let F0:Nat→Prop:=fun k=>F k∨k=w.heap.size
 have hW0:W0.heap.size=w.heap.size+1:=p0.sz
 have g0:Gr ρ F w ρ F0 W0:=⟨fun _ _ h=>h,fun _ h=> .inl h,fun k hk=>p0.old (hfr.fz k hk).1⟩
 have hfr0:Fr B ρ F0 W0:=by
  refine⟨hfr.os,hfr.tape,hfr.output,by have:=hfr.size;omega,fun k hk hn=>(p0.old (by have:=hfr.size;omega)).trans (hfr.mem k hk hn),hfr.rho,fun k hk=> ?_,fun k hk=> .inl (hfr.bf k hk)⟩
  rcases hk with hk|hk
  ·obtain⟨x,y⟩:=hfr.fz k hk;exact⟨by omega,y⟩
  ·subst hk;exact⟨by omega, .inr (.inr hfr.size)⟩
 have hi0:HI B ρ F0 W0 (bU st.heap):=by
  obtain⟨ft,hi⟩:=hi
  refine⟨ft,hi.step g0 hfr (by omega) (fun _=>False) (fun b ob _ hb=> ⟨hb,fun k hk=>p0.old (hi.blk b ob k hb hk).1,fun _=>Iff.rfl⟩) (fun _ _ h=>h.elim) (fun _ _ _ h=>h.elim) (fun _ _ _ _ _ h=>h.elim) (fun k hk=> ?_) hi.fresh⟩
  rcases hk with hk|hk
  ·exact .inl hk
  ·subst hk;exact .inr (.inr ⟨Nat.le_refl _,fun _ _ h=>h.elim⟩)
 have hρ:=hi0.fresh lb hlb
 have g1:Gr ρ F0 W0 (dS ρ lb (.blk W0.heap.size 0 0)) F0 W1:=p1.gr hfr0 hρ
 have hi1:=p1.hi hfr0 hi0 (b:=lb) (base:=0) (cap:=0) (nob:= .loop ⟨ps,assign,body,N,outs⟩ 0 sl) hlb (by
  refine⟨W0.heap.size,0,0,fn,a.tmps,w.heap.size,aH _ _,rfl,by simp, ?_,sz,fun t tv ht=> ?_⟩
  ·rw [p1.new];rfl
  ·obtain⟨v,hv,hr⟩:=hs t tv (hsl _ (get_mem ht))
   exact⟨v,hv,(hr.gr g0).gr g1⟩)
 have hfr1:=p1.fr hfr0 (pl:= .blk W0.heap.size 0 0) hρ
 have hheap:upd (bU st.heap) [(lb,some (.loop ⟨ps,assign,body,N,outs⟩ 0 sl))]=bU ((lb,some (.loop ⟨ps,assign,body,N,outs⟩ 0 sl))::st.heap):=by
  funext x;rw [tV];simp only [bU];rw [aJ]
 rw [hheap]at hi1
 have hL:W1.heap[w.heap.size+1]? =some (.loop {state:= .ready,pending:=none,fn,tmps:=a.tmps,params:=ps.toArray,assign,body,defers:=w.heap.size}):=by
  have:=p1.new;rw [hW0]at this;exact this
 have gg:=g0.trans g1
 refine⟨w.heap.size+1,[{target:= .collected w.heap.size,args:= #[] }],W1,{target:= .fn (.func f) v2.toArray,args:=v1.toArray++ #[.func (.yield (w.heap.size+1)) #[] #[]] },W1,f,(v1.toArray++ #[.func (.yield (w.heap.size+1)) #[] #[]])++v2.toArray,W1,hent, ?_,fun _ _=>trivial, ?_,fun hh=>by simp [FW,Fence.wide]at hh, ?_⟩
 ·simp [resolve,hv,Deferred.ofValue];rfl
 ·obtain⟨⟨fn',e1,e2,e3⟩,_⟩:=hfn
  simp only [invoke,callFunc,Sem.run_bind,run_program,Result.andThen_ok,e1,e2,e3,Bool.false_eq_true,if_false]
  rfl
 ·-- the call
  have hargs:nI ((c1++CV.yl lb::c2).map fun c=>TV.v (.one c))=some ((c1++CV.yl lb::c2).map .one):=Iz _
  have hyl:iX (dS ρ lb (.blk W0.heap.size 0 0)) F0 W1 (.yl lb) (.func (.yield (w.heap.size+1)) #[] #[]):=⟨W0.heap.size,0,0,aH _ _,by rw [hW0]⟩
  have hxs:jB (dS ρ lb (.blk W0.heap.size 0 0)) F0 W1 ((c1++CV.yl lb::c2).map fun c=>TV.v (.one c)) (v1++ .func (.yield (w.heap.size+1)) #[] #[]::v2):=
   E8 (((hr1.gr gg)).append ⟨hyl,hr2.gr gg⟩)
  have hmentE:((c1++CV.yl lb::c2).map SV.one).flatMap SV.eX=(c1++CV.yl lb::c2).flatMap CV.eX:=by
   rw [List.flatMap_map];rfl
  have hdropE:((ids++hout.map (·.1)).map (bU ((lb,some (.loop ⟨ps,assign,body,N,outs⟩ 0 sl))::st.heap))).drop ids.length=(hout.map (·.1)).map (bU ((lb,some (.loop ⟨ps,assign,body,N,outs⟩ 0 sl))::st.heap)):=by
   rw [List.map_append]
   conv=>lhs;arg 1;rw [←List.length_map (f:=bU ((lb,some (.loop ⟨ps,assign,body,N,outs⟩ 0 sl))::st.heap)) (as:=ids)]
   rw [List.drop_left]
  have htakeE:((ids++hout.map (·.1)).map (bU ((lb,some (.loop ⟨ps,assign,body,N,outs⟩ 0 sl))::st.heap))).take ids.length=ids.map (bU ((lb,some (.loop ⟨ps,assign,body,N,outs⟩ 0 sl))::st.heap)):=by
   rw [List.map_append]
   conv=>lhs;arg 1;rw [←List.length_map (f:=bU ((lb,some (.loop ⟨ps,assign,body,N,outs⟩ 0 sl))::st.heap)) (as:=ids)]
   rw [List.take_left]
  have hzip:dH ids ((ids++hout.map (·.1)).map (bU ((lb,some (.loop ⟨ps,assign,body,N,outs⟩ 0 sl))::st.heap)))=some hin:=by
   rw [List.map_append]
   have: ∀(is:List Nat) (os os':List (Option (Option Ob))) (m:List (Nat × Option Ob)),dH is os=some m→dH is (os++os')=some m:=by
    intro is
    induction is with
    |nil=>intro os os' m h;simpa [dH]using h
    |cons i is ih=>
     intro os os' m h
     match os,h with
     |some (some o)::os,h=>
      simp only [dH]at h
      split at h
      ·rename_i l hl
       simp only [List.cons_append,dH,ih os os' l hl];exact h
      ·cases h
     |[],h=>simp [dH]at h
     |none::_,h=>simp [dH]at h
     |some none::_,h=>simp [dH]at h
   exact this _ _ _ _ hin1
  have hall:=fun K=>OJ (res:=res) (B:=B) (X:=fun K=>CallsIn (FW none) (0 - 1) P f ((v1.toArray++ #[.func (.yield (w.heap.size+1)) #[] #[]])++v2.toArray) W1 fun e w'=> ∃v,e= .returned v∧K v w') hzip hargs
   (by rw [hmentE,htakeE,hdropE];exact hok) rfl hfr1 hi1 hxs (fun B' hw _ hF hi' hxs' K hK=>by
    have hcall:=(callsIn_wide (n:=0 - 1)).2 (hfn.2 B' (v1++ .func (.yield (w.heap.size+1)) #[] #[]::v2) hF hi' hxs')
    have harr:(v1++ .func (.yield (w.heap.size+1)) #[] #[]::v2).toArray=(v1.toArray++ #[.func (.yield (w.heap.size+1)) #[] #[]])++v2.toArray:=Array.ext' (by simp)
    rw [harr,hw]at hcall
    have hcall':CallsIn (FW none) (0 - 1) P f ((v1.toArray++ #[.func (.yield (w.heap.size+1)) #[] #[]])++v2.toArray) W1 _:=hcall
    refine hcall'.mono ?_
    rintro e w' ⟨v,ρ',F',rfl,h1,h2,h3⟩
    exact⟨v,rfl,hK v w' ⟨ρ',F',h1,h2,h3⟩⟩) K
  refine CallsIn.mono (hall (fun v w'=>rangePost (FW none) 0 P (w.heap.size+1) (fun e a' w'=> ∃st',Q e st'∧Conc B N L st' a' w') {a with defers:=[{target:= .collected w.heap.size,args:= #[] }]++a.defers} (.returned v) w')
   (fun v ρ2 F2 w2 g2 f2 hi2 hr=> ?_)) ?_
  ·-- behind the call
   obtain⟨ft2,hi2⟩:=hi2
   have hl2:upd (bU ((lb,some (.loop ⟨ps,assign,body,N,outs⟩ 0 sl))::st.heap)) (hout++ids.map fun i=>(i,none)) lb=some (some (.loop r' stt sl')):=by
    rw [HZ,get_append,hlo]
   obtain⟨k,base,cap,fn2,tmps2,D2,y1,y0,y2,y3,y4,y5⟩:=hi2.obj lb _ hl2
   have hk:k=w.heap.size+1:=by
    have:=g2.rho lb _ (aH lb (.blk W0.heap.size 0 0))
    rw [y1]at this;cases this;exact hW0
   subst hk
   have hend:=run_endLoop (P:=P) y3 (by
    rcases hx with⟨h0,_⟩|⟨q,c,h0,_⟩
    ·subst h0;simp [oI]
    ·subst h0;simp [oI])
   have pt:=aej (w:=w2) (k:=w.heap.size+1) (.loop {state:= .exhausted,pending:=iR r'.outs stt,fn:=fn2,tmps:=tmps2,params:=r'.ps.toArray,assign:=r'.assign,body:=r'.body,defers:=D2})
   have hblk:=hi2.blk lb _ _ hl2 y0
   have g3:=pt.gr (ρ:=ρ2) hblk.2.1
   have hfr3:=pt.fr f2 hblk.2.2
   have hi3:wX B ρ2 F2 (w2.putObj (w.heap.size+1) (.loop {state:= .exhausted,pending:=iR r'.outs stt,fn:=fn2,tmps:=tmps2,params:=r'.ps.toArray,assign:=r'.assign,body:=r'.body,defers:=D2}))
     (bU ((lb,none)::(hout++(ids.map (fun i=>(i,none))++st.heap)))) ft2:=by
    have hu: ∀x,bU ((lb,none)::(hout++(ids.map (fun i=>(i,none))++st.heap))) x=if lb=x then some none else upd (bU ((lb,some (.loop ⟨ps,assign,body,N,outs⟩ 0 sl))::st.heap)) (hout++ids.map fun i=>(i,none)) x:=fun x=>by
     simp only [bU];rw [aJ]
     by_cases e:lb=x
     ·rw [if_pos e,if_pos e]
     ·rw [if_neg e,if_neg e,←List.append_assoc,get_append,HZ]
      cases get (hout++ids.map fun i=>(i,none)) x with
      |some _=>rfl
      |none=>simp only;rw [aJ,if_neg e]
    refine hi2.step g3 f2 (by rw [pt.size];omega) (fun x=>x=lb) (fun x ox e hh=> ?_) (fun x ox e hh=> ?_) (fun x ox q e hh _=> ?_) (fun x y ox oy q e1 e2 _ _ _ _=>e1.trans e2.symm) (fun q hq=> .inl hq) fun x hh=> ?_
    ·rw [hu,if_neg (Ne.symm e)]at hh
     exact⟨hh,fun q hq=>pt.old q fun e'=>e (hi2.dis x lb ox _ q hh hl2 hq (e' ▸ y0)),fun _=>Iff.rfl⟩
    ·subst e;rw [hu,if_pos rfl]at hh;cases hh
    ·subst e;rw [hu,if_pos rfl]at hh;cases hh
    ·rw [hu]at hh
     split at hh
     ·cases hh
     ·exact hi2.fresh x hh
   have gall:=(gg.trans g2).trans g3
   have hconc:Conc B N L ⟨st.slots,(lb,none)::(hout++(ids.map (fun i=>(i,none))++st.heap))⟩ {a with defers:=[{target:= .collected w.heap.size,args:= #[] }]++a.defers}
     (w2.putObj (w.heap.size+1) (.loop {state:= .exhausted,pending:=iR r'.outs stt,fn:=fn2,tmps:=tmps2,params:=r'.ps.toArray,assign:=r'.assign,body:=r'.body,defers:=D2})):=by
    refine⟨⟨ρ2,F2,hfr3,⟨ft2,hi3⟩,fun t tv ht=> ?_, ?_⟩,hid,sz⟩
    ·obtain⟨v,hv,hr⟩:=hs t tv ht
     exact⟨v,hv,hr.gr gall⟩
    ·obtain⟨d0,Ds,d1,d2,d3⟩:=dn
     have hg12:=g1.trans (g2.trans g3)
     refine⟨d0,w.heap.size::Ds,by simp [d1],List.nodup_cons.2 ⟨fun hm=> ?_,d2⟩,fun D hD=> ?_⟩
     ·have:=(hfr.fz _ (d3 _ hm).1).1;omega
     ·rcases List.mem_cons.1 hD with rfl|hD
      ·exact⟨hg12.fz _ (.inr rfl),Nat.le_trans d0 hfr.size,by rw [hg12.mem _ (.inr rfl)];exact p0.new⟩
      ·obtain⟨z1,z2,z3⟩:=d3 D hD
       exact⟨gall.fz D z1,z2,by rw [gall.mem D z1];exact z3⟩
   refine⟨iR r'.outs stt,_,hend, ?_⟩
   rcases hx with⟨h0,rfl⟩|⟨q,c,h0,hcq,hout',rfl⟩
   ·subst h0
    exact⟨_,hQ,hconc⟩
   ·subst h0
    have hp:iR r'.outs (q+2)=some c:=by simp [iR,hr',hcq]
    rw [hp]
    cases c with
    |ret=>exact wpIn_ret ⟨_,hQ,by rw [hp]at hconc;exact hconc⟩
    |exit id=>exact wpIn_exit ⟨_,hQ,by rw [hp]at hconc;exact hconc⟩
    |goto l=>exact wpIn_goto ⟨_,hQ,by rw [hp]at hconc;exact hconc⟩
    |_=>simp [Eu]at hout'
  ·rintro e w' ⟨v,rfl,hh⟩
   exact hh
def Ze (s:Nat):Option Ob→Option Ob
 |some (.loop r _ sl)=>some (.loop r s sl)
 |y=>y
def DR (lb s:Nat):List (Nat × Option Ob)→List (Nat × Option Ob)
 |[]=>[]
 |(b,x)::l=>(b,bif Nat.beq b lb then Ze s x else x)::DR lb s l
theorem PK (lb s:Nat): ∀(l:List (Nat × Option Ob)) (b:Nat),get (DR lb s l) b=bif Nat.beq b lb then(get l b).map (Ze s)else get l b
 |[],b=>by simp [DR,get]
 |(k,x)::l,b=>by
  simp only [DR]
  rw [aJ,aJ]
  by_cases e:k=b
  ·subst e
   rw [if_pos rfl,if_pos rfl]
   cases Nat.beq k lb<;>rfl
  ·rw [if_neg e,if_neg e];exact PK lb s l b
theorem LD {a:Act} {w:World} {lb:Nat} {r:iG} {st0:Nat} {sl:List (Nat × TV)} (hc:Conc B N L st a w) (hlb:get st.heap lb=some (some (.loop r st0 sl))) {l base cap:Nat} (hl: ∀p,B.ρ lb=some p→p= .blk l base cap) (hl2:B.ρ lb≠none):
  ∃lp:Loop,w.heap[l]? =some (.loop lp)∧lp.state=oI st0∧lp.pending=iR r.outs st0∧ ∀s,s<r.outs.length+2→Conc B N L ⟨st.slots,DR lb s st.heap⟩ a (w.putObj l (.loop {lp with state:=oI s,pending:=iR r.outs s})):=by
 obtain⟨⟨ρ,F,hfr,⟨ft,hi⟩,hs,dn⟩,hid,sz⟩:=hc
 obtain⟨k,base',cap',fn,tmps,D,y1,y0,y2,y3,y4,y5⟩:=hi.obj lb _ hlb
 have hk:k=l:=by
  cases hB:B.ρ lb with
  |none=>exact absurd hB hl2
  |some p=>
   have:=hfr.rho lb p hB
   rw [hl p hB,y1]at this;cases this;rfl
 subst hk
 refine⟨_,y3,rfl,rfl,fun s hsl=> ?_⟩
 show Conc B N L ⟨st.slots,DR lb s st.heap⟩ a (w.putObj k (.loop {state:=oI s,pending:=iR r.outs s,fn,tmps,params:=r.ps.toArray,assign:=r.assign,body:=r.body,defers:=D}))
 have pt:=aej (w:=w) (k:=k) (.loop {state:=oI s,pending:=iR r.outs s,fn,tmps,params:=r.ps.toArray,assign:=r.assign,body:=r.body,defers:=D})
 have hblk:=hi.blk lb _ k hlb y0
 have g:=pt.gr (ρ:=ρ) hblk.2.1
 have hhi:=pt.hi hfr hi hlb y0 (S:=ft lb) (nob:= .loop r s sl) (fun _ h=>h) ⟨k,base',cap',fn,tmps,D,y1,y0,hsl,World.putObj_heap_same hblk.1,y4,fun t tv ht=>by
  obtain⟨v,e1,e2⟩:=y5 t tv ht
  exact⟨v,e1,e2.gr g⟩⟩
 have hu:upd (bU st.heap) [(lb,some (.loop r s sl))]=bU (DR lb s st.heap):=by
  funext b
  rw [tV]
  show _=get (DR lb s st.heap) b
  rw [PK]
  by_cases e:lb=b
  ·subst e
   rw [if_pos rfl,hlb,show Nat.beq lb lb=true from Nat.beq_refl lb];rfl
  ·rw [if_neg e,show Nat.beq b lb=false from uZ (Ne.symm e)];rfl
 rw [hu]at hhi
 refine⟨⟨ρ,F,pt.fr hfr hblk.2.2,⟨_,hhi⟩,fun t tv ht=> ?_,dn.gr g⟩,hid,sz⟩
 obtain⟨v,hv,hr⟩:=hs t tv ht
 exact⟨v,hv,hr.gr g⟩
theorem RH: ∀{ps:List Nat} {vs:List Value} {tmps:Array Value},ps.length=vs.length→zk ps=true→(∀t∈ps,t<tmps.size)→
  ((ps.zip vs).foldl (fun(tm:Array Value) (p:Nat × Value)=>tm.setIfInBounds p.1 p.2) tmps).size=tmps.size∧
  (∀t,t ∉ ps→((ps.zip vs).foldl (fun(tm:Array Value) (p:Nat × Value)=>tm.setIfInBounds p.1 p.2) tmps)[t]? =tmps[t]?)∧
  ∀(j t:Nat) (v:Value),ps[j]? =some t→vs[j]? =some v→((ps.zip vs).foldl (fun(tm:Array Value) (p:Nat × Value)=>tm.setIfInBounds p.1 p.2) tmps)[t]? =some v
 |[],[],tmps,_,_,_=> ⟨rfl,fun _ _=>rfl,fun _ _ _ h=>by simp at h⟩
 |p::ps,v::vs,tmps,hl,hn,hlt=>by
  simp only [zk,Bool.and_eq_true,Bool.not_eq_true']at hn
  have hnm:=tu hn.1
  obtain⟨i1,i2,i3⟩:=RH (ps:=ps) (vs:=vs) (tmps:=tmps.setIfInBounds p v) (by simpa using hl) hn.2 (fun t ht=>by rw [Array.size_setIfInBounds];exact hlt t (by simp [ht]))
  rw [List.zip_cons_cons,List.foldl_cons]
  refine⟨by rw [i1];simp,fun t ht=> ?_,fun j t u hj hu=> ?_⟩
  ·rw [i2 t (fun h=>ht (by simp [h])),Array.getElem?_setIfInBounds_ne (fun e=>ht (by simp [e]))]
  ·cases j with
   |zero=>
    simp at hj hu;subst hj;subst hu
    rw [i2 p hnm]
    have:=hlt p (by simp)
    simp [this]
   |succ j=>simp at hj hu;exact i3 j t u hj hu
 |[],_::_,_,hl,_,_=>by simp at hl
 |_::_,[],_,hl,_,_=>by simp at hl
def zL:List Nat→List SV→List (Nat × TV)
 |t::ts,s::ss=>(t, .v s)::zL ts ss
 |_,_=>[]
theorem Lr {ρ:Nat→Option Pl} {F:Nat→Prop} {w:World}: ∀{ps:List Nat} {args:List SV} {vs:List Value},gm ρ F w args vs→ ∀t tv,get (zL ps args) t=some tv→ ∃(j:Nat) (v:Value),ps[j]? =some t∧vs[j]? =some v∧cK ρ F w tv v
 |[],_,_,_,t,tv,h=>by simp [zL,get]at h
 |_::_,[],_,_,t,tv,h=>by simp [zL,get]at h
 |p::ps,s::ss,v::vs,⟨h1,h2⟩,t,tv,h=>by
  simp only [zL]at h
  rw [aJ]at h
  split at h
  ·rename_i e;subst e;cases h;exact⟨0,v,rfl,rfl,h1⟩
  ·obtain⟨j,u,e1,e2,e3⟩:=Lr h2 t tv h
   exact⟨j+1,u,by simpa using e1,by simpa using e2,e3⟩
 |_::_,_::_,[],h,_,_,_=>h.elim
theorem Ib: ∀{ps:List Nat} {args:List SV} {t:Nat},ps.length=args.length→get (zL ps args) t=none→t ∉ ps
 |[],_,_,_,_=>by simp
 |p::ps,[],_,hl,_=>by simp at hl
 |p::ps,s::ss,t,hl,h=>by
  simp only [zL]at h
  rw [aJ]at h
  split at h
  ·cases h
  ·rename_i e
   rw [List.mem_cons]
   rintro (e'|hm)
   ·exact e e'.symm
   ·exact Ib (by simpa using hl) h hm
def Dk (lb:Nat) (r:iG) (res:TV) (hout:List (Nat × Option Ob)) (e:Exit) (st:St):Prop:=
 ∃(s:Nat) (b:Bool) (sl:List (Nat × TV)),((e= .normal∧s=0∧b=true)∨ ∃k c,r.outs[k]? =some c∧Eu c=true∧e=CB c∧s=k+2∧b=false)∧
  get st.heap lb=some (some (.loop r 1 sl))∧sG (DR lb s st.heap) hout∧zu (.v (.one (.d (.bool b)))) res
theorem Dk.on {lb:Nat} {r:iG} {res:TV} {hout:List (Nat × Option Ob)} {sl:List (Nat × TV)} (h1:get st.heap lb=some (some (.loop r 1 sl))) (h2:sG (DR lb 0 st.heap) hout) (h3:zu (.v (.one (.d (.bool true)))) res):Dk lb r res hout .normal st:=
 ⟨0,true,sl, .inl ⟨rfl,rfl,rfl⟩,h1,h2,h3⟩
theorem Dk.off {lb k:Nat} {c:Code} {e:Exit} {r:iG} {res:TV} {hout:List (Nat × Option Ob)} {sl:List (Nat × TV)} (hc:r.outs[k]? =some c) (ho:Eu c=true) (he:e=CB c) (h1:get st.heap lb=some (some (.loop r 1 sl))) (h2:sG (DR lb (k+2) st.heap) hout) (h3:zu (.v (.one (.d (.bool false)))) res):Dk lb r res hout e st:=
 ⟨k+2,false,sl, .inr ⟨k,c,hc,ho,he,rfl,rfl⟩,h1,h2,h3⟩
theorem V9 {lb:Nat} {r:iG} {sl sl1:List (Nat × TV)} {args:List SV} {hin h1 hout:List (Nat × Option Ob)} {res:TV} {sl2:List (Nat × TV)} (hlb:get hin lb=some (some (.loop r 0 sl))) (hps:r.ps.length=args.length) (hnd:zk r.ps=true) (hlt:r.ps.all (fun t=>Nat.blt t r.N)=true)
  (hA: ∀rd B,jE rd P B r.N (hin.map (·.1)) r.assign (fun e st'=>e= .normal∧st'=⟨sl1,h1⟩) ⟨zL r.ps args++sl,hin⟩) (hlb1:get h1 lb=some (some (.loop r 0 sl2)))
  (hB: ∀rd B,jE rd P B r.N (hin.map (·.1)) r.body (Dk lb r res hout) ⟨sl1,DR lb 1 h1⟩):Yl P lb args hin res hout:=by
 intro B0 vs l base cap hF hi hr hρ
 obtain⟨B,hBe⟩: ∃B,B=B0.up:=⟨_,rfl⟩
 have hF: ∀k,B.F k→k<B.w.heap.size:=by rw [hBe];exact hF
 have hi:HI B B.ρ B.F B.w (bU hin):=by rw [hBe];exact hi.up
 have hr:gm B.ρ B.F B.w args vs:=by rw [hBe];exact hr
 have hρ:B.ρ lb=some (.blk l base cap):=by rw [hBe];exact hρ
 have hmk:B.mb≤B.w.heap.size:=by rw [hBe];exact Nat.le_refl _
 have down: ∀{v w},Post B res hout v w→Post B0 res hout v w:=by
  rw [hBe]
  rintro v w ⟨ρ,F,a,b,c⟩
  exact⟨ρ,F,a.dn,b.dn,c⟩
 rw [show B0.w=B.w by rw [hBe];rfl]
 have hi0:=hi
 obtain⟨ft,hi⟩:=hi
 obtain⟨k,base',cap',fn,tmps,D,y1,y0,y2,y3,y4,y5⟩:=hi.obj lb _ hlb
 rw [hρ]at y1;cases y1
 have hvl:=hr.length
 have hy:=run_yield (P:=P) (args:=vs.toArray) y3 (by simp;omega)
 refine⟨fn,_,r.assign,r.body,hy, ?_⟩
 have hfold:(r.ps.toArray.zip vs.toArray).foldl (fun tmps (t,a)=>tmps.setIfInBounds t a) tmps=(r.ps.zip vs).foldl (fun(tm:Array Value) (p:Nat × Value)=>tm.setIfInBounds p.1 p.2) tmps:=by
  rw [←Array.foldl_toList];simp
 obtain⟨z1,z2,z3⟩:=RH (ps:=r.ps) (vs:=vs) (tmps:=tmps) (by omega) hnd (fun t ht=>by
  have:=List.all_eq_true.1 hlt t ht
  rw [y4];exact Nat.le_of_ble_eq_true (n:=t+1) this)
 have hconc:Conc B r.N (hin.map (·.1)) ⟨zL r.ps args++sl,hin⟩ {tmps:=(r.ps.toArray.zip vs.toArray).foldl (fun tmps (t,a)=>tmps.setIfInBounds t a) tmps,defers:=[] } B.w:=by
  rw [hfold]
  refine⟨⟨B.ρ,B.F,⟨rfl,rfl, .refl _,Nat.le_refl _,fun _ _ _=>rfl,fun _ _ h=>h,fun k hk=> ⟨hF k hk, .inl hk⟩,fun _ h=>h⟩,hi0,fun t tv ht=> ?_,Marks.none hmk⟩,fun b p hbp=> ?_,by rw [z1,y4]⟩
  ·have ht:get (zL r.ps args++sl) t=some tv:=ht
   rw [get_append]at ht
   split at ht
   ·rename_i tv' hg
    cases ht
    obtain⟨j,v,e1,e2,e3⟩:=Lr hr t tv hg
    exact⟨v,z3 j t v e1 e2,e3⟩
   ·rename_i hg
    obtain⟨v,e1,e2⟩:=y5 t tv ht
    exact⟨v,by rw [z2 t (Ib hps hg)];exact e1,e2⟩
  ·apply Classical.byContradiction
   intro hnm
   have:=hi.fresh b (eD hnm)
   rw [this]at hbp;cases hbp
 have hl1: ∀p,B.ρ lb=some p→p= .blk l base cap:=fun p hp=>by rw [hρ]at hp;cases hp;rfl
 have hl2:B.ρ lb≠none:=by rw [hρ];simp
 refine roundIn_of_wpIn (F:=FW none) trivial (wpIn_mono (hA (some l) B _ _ hconc) ?_)
 rintro e a1 w1 ⟨st',⟨rfl,rfl⟩,hc1⟩
 obtain⟨lp,q1,q2,q3,q4⟩:=LD hc1 hlb1 hl1 hl2
 refine⟨_,run_beginRound q1 (by rw [q2];rfl), ?_⟩
 have hc2:=q4 1 (by omega)
 have hlp:({lp with state:=oI 1,pending:=iR r.outs 1}:Loop)={lp with state:= .busy}:=by
  have:lp.pending=none:=q3
  cases lp;simp at this;subst this;rfl
 rw [hlp]at hc2
 refine wpIn_mono (hB (some l) B _ _ hc2) ?_
 rintro e a2 w2 ⟨st2,⟨s,b,sl3,hcase,hg,hle,hres⟩,hc3⟩
 obtain⟨lp2,u1,u2,u3,u4⟩:=LD hc3 hg hl1 hl2
 have fin: ∀jump:Option Code,s<r.outs.length+2→(if jump.isNone then LoopState.ready else .done)=oI s→jump=iR r.outs s→jump.isNone=b→
   ∃v w',(Instr.endRound l jump).run P w2= .ok v w'∧ ∃v',Ending.returned v=Ending.returned v'∧Post B0 res hout v' w':=by
  intro jump hs h1 h2 h3
  refine⟨_,_,run_endRound jump u1,_,rfl, ?_⟩
  have hc4:=u4 s hs
  rw [h1,h2,show(iR r.outs s).isNone=b by rw [←h2];exact h3]
  obtain⟨⟨ρ',F',f1,f2,_,_⟩,_,_⟩:=hc4
  exact down ⟨ρ',F',f1,f2.le hle,hres _ _ _ _ rfl⟩
 rcases hcase with⟨rfl,rfl,rfl⟩|⟨k,c,hk,ho,rfl,rfl,rfl⟩
 ·exact fin none (by omega) rfl rfl rfl
 ·have hkl:k<r.outs.length:=(List.getElem?_eq_some_iff.1 hk).1
  have hp:some c=iR r.outs (k+2):=by simp [iR,hk]
  cases c with
  |ret=>exact fin (some .ret) (by omega) rfl hp rfl
  |exit id=>exact fin (some (.exit id)) (by omega) rfl hp rfl
  |goto t=>exact fin (some (.goto t)) (by omega) rfl hp rfl
  |_=>simp [Eu]at ho
end
def Mv (l:List CV) (j:Nat):CV:=l.getD j (.d .nilp)
theorem Er (n:Nat) (f:Nat→CV) {j:Nat} (h:j<n):Mv ((List.range n).map f) j=f j:=by
 simp [Mv,List.getD_eq_getElem?_getD,h]
def CV.ren (σ:Nat→Nat):CV→CV
 | .d x=> .d x
 | .ptr b off=> .ptr (σ b) off
 | .opt b e i off=> .opt (σ b) e i off
 | .own b nn len=> .own (σ b) nn len
 | .mp b=> .mp (σ b)
 | .fn f nf n cap=> .fn f nf n (Mv ((List.range n).map fun j=>(cap j).ren σ))
 | .yl b=> .yl (σ b)
def SV.ren (σ:Nat→Nat):SV→SV
 | .one c=> .one (c.ren σ)
 | .agg cs=> .agg (cs.map (CV.ren σ))
def TV.ren (σ:Nat→Nat):TV→TV
 | .v s=> .v (s.ren σ)
 | .iP l=> .iP (l.map (SV.ren σ))
def Ob.ren (σ:Nat→Nat):Ob→Ob
 | .cells E cs=> .cells E (cs.map (CV.ren σ))
 | .fcells E ds=> .fcells E ds
 | .arr E esz len el=> .arr E esz len el
 | .rows E esz len el ov=> .rows E esz len el (ov.map fun x=>(x.1,x.2.1,x.2.2.ren σ))
 | .map m=> .map {m with val:=fun i j=>(m.val i j).ren σ,ms:=m.ms.map σ}
 | .loop r st sl=> .loop r st (sl.map fun p=>(p.1,p.2.ren σ))
 | .coll=> .coll
 | .suf b l esz=> .suf (σ b) l esz
def xM (σ:Nat→Nat) (h:List (Nat × Option Ob)):List (Nat × Option Ob):=h.map fun p=>(σ p.1,p.2.map (Ob.ren σ))
section
variable {ρ:Nat→Option Pl} {F:Nat→Prop} {w:World} {σ:Nat→Nat}
theorem H8: ∀{c:CV} {v:Value},iX ρ F w (c.ren σ) v↔iX (fun x=>ρ (σ x)) F w c v:=by
 intro c
 induction c with
 |fn f nf n cap ih=>
  intro v
  constructor
  ·rintro ⟨vs,e,hl,h⟩
   refine⟨vs,e,hl,fun j u hu=>(ih j).1 ?_⟩
   have:=h j u hu
   rwa [Er _ _ (by rw [←hl];exact(List.getElem?_eq_some_iff.1 hu).1)]at this
  ·rintro ⟨vs,e,hl,h⟩
   refine⟨vs,e,hl,fun j u hu=> ?_⟩
   rw [Er _ _ (by rw [←hl];exact(List.getElem?_eq_some_iff.1 hu).1)]
   exact(ih j).2 (h j u hu)
 |_=>intro v;exact Iff.rfl
theorem Bp: ∀{cs:List CV} {vs:List Value},cu ρ F w (cs.map (CV.ren σ)) vs↔cu (fun x=>ρ (σ x)) F w cs vs
 |[],[]=>Iff.rfl
 |_::_,_::_=>and_congr H8 Bp
 |[],_::_=>Iff.rfl
 |_::_,[]=>Iff.rfl
theorem E9: ∀{s:SV} {v:Value},jr ρ F w (s.ren σ) v↔jr (fun x=>ρ (σ x)) F w s v
 | .one _,_=>H8
 | .agg _,_=> ⟨fun⟨vs,e,h⟩=> ⟨vs,e,Bp.1 h⟩,fun⟨vs,e,h⟩=> ⟨vs,e,Bp.2 h⟩⟩
theorem yN: ∀{cs:List SV} {vs:List Value},gm ρ F w (cs.map (SV.ren σ)) vs↔gm (fun x=>ρ (σ x)) F w cs vs
 |[],[]=>Iff.rfl
 |_::_,_::_=>and_congr E9 yN
 |[],_::_=>Iff.rfl
 |_::_,[]=>Iff.rfl
theorem D5: ∀{t:TV} {v:Value},cK ρ F w (t.ren σ) v↔cK (fun x=>ρ (σ x)) F w t v
 | .v _,_=>E9
 | .iP _,_=> ⟨fun⟨vs,e,h⟩=> ⟨vs,e,yN.1 h⟩,fun⟨vs,e,h⟩=> ⟨vs,e,yN.2 h⟩⟩
theorem OI: ∀{c:CV} {x:Nat},x∈(c.ren σ).eX↔ ∃y,y∈c.eX∧σ y=x:=by
 intro c
 induction c with
 |d y=>intro x;simp [CV.ren,CV.eX]
 |fn f nf n cap ih=>
  intro x
  simp only [CV.ren,CV.eX,List.mem_flatMap,List.mem_range]
  constructor
  ·rintro ⟨j,hj,h⟩
   rw [Er _ _ hj]at h
   obtain⟨y,hy,e⟩:=(ih j).1 h;exact⟨y,⟨j,hj,hy⟩,e⟩
  ·rintro ⟨y,⟨j,hj,hy⟩,e⟩
   refine⟨j,hj, ?_⟩
   rw [Er _ _ hj]
   exact(ih j).2 ⟨y,hy,e⟩
 |_=>intro x;simp [CV.ren,CV.eX,eq_comm]
theorem xO {α β:Type} (f:α→β): ∀(l:List (Nat × α)) (t:Nat),get (l.map fun p=>(p.1,f p.2)) t=(get l t).map f
 |[],_=>rfl
 |(k,x)::l,t=>by
  rw [List.map_cons,aJ,aJ,xO f l t]
  split<;>rfl
theorem KP (c:Nat→CV): ∀(i n:Nat),iD (fun j=>(c j).ren σ) i n=(iD c i n).map (CV.ren σ)
 |_,0=>rfl
 |i,n+1=>by rw [iD,iD,List.map_cons,KP c (i+1) n]
theorem Xe (agg:Bool) (cs:List CV):mV agg (cs.map (CV.ren σ))=(mV agg cs).map (SV.ren σ):=by
 cases agg with
 |true=>rfl
 |false=>match cs with
  |[]=>rfl
  |[_]=>rfl
  |_::_::_=>rfl
theorem Jh {agg:Bool} {sz:Nat} {c:Nat→CV} {v:Value}:yF ρ F w agg sz (fun j=>(c j).ren σ) v↔yF (fun x=>ρ (σ x)) F w agg sz c v:=by
 unfold yF
 rw [KP,Xe]
 constructor
 ·rintro ⟨s,e,h⟩
  cases hh:mV agg (iD c 0 sz)with
  |none=>rw [hh]at e;cases e
  |some s'=>rw [hh]at e;cases e;exact⟨s',rfl,E9.1 h⟩
 ·rintro ⟨s,e,h⟩
  rw [e]
  exact⟨_,rfl,E9.2 h⟩
theorem Og {S:Nat→Prop} {rb:Nat→Nat→Option Nat} {el:Nat→Nat→EV} {ov:Option (Nat × Nat × CV)} {i j:Nat} {v:Value}:
  Cg ρ F w S rb el (ov.map fun x=>(x.1,x.2.1,x.2.2.ren σ)) i j v↔Cg (fun x=>ρ (σ x)) F w S rb el ov i j v:=by
 unfold Cg
 cases ov with
 |none=>exact Iff.rfl
 |some x=>
  simp only [Option.map_some]
  split
  ·exact H8
  ·exact Iff.rfl
theorem OH (hσ: ∀x y,σ x=σ y→x=y) {S:Nat→Prop} {b:Nat} {ob:Ob}:nU ρ F w S (σ b) (ob.ren σ)↔nU (fun x=>ρ (σ x)) F w S b ob:=by
 cases ob with
 |cells E cs=>
  constructor
  ·rintro ⟨k,cap,vs,h1,h2,h3,h4⟩;exact⟨k,cap,vs,h1,h2,h3,Bp.1 h4⟩
  ·rintro ⟨k,cap,vs,h1,h2,h3,h4⟩;exact⟨k,cap,vs,h1,h2,h3,Bp.2 h4⟩
 |fcells E ds=>exact Iff.rfl
 |arr E esz len el=>exact Iff.rfl
 |rows E esz len el ov=>
  constructor
  ·rintro (h|⟨k,base,cap,vs,rb,h1,h2,h3,h4,h5,h6,h7,h8,h9⟩)
   ·exact .inl h
   ·exact .inr ⟨k,base,cap,vs,rb,h1,h2,h3,h4,h5,h6,fun i hi j hj=>by obtain⟨u,hu,hr⟩:=h7 i hi j hj;exact⟨u,hu,Og.1 hr⟩,h8,h9⟩
  ·rintro (h|⟨k,base,cap,vs,rb,h1,h2,h3,h4,h5,h6,h7,h8,h9⟩)
   ·exact .inl h
   ·exact .inr ⟨k,base,cap,vs,rb,h1,h2,h3,h4,h5,h6,fun i hi j hj=>by obtain⟨u,hu,hr⟩:=h7 i hi j hj;exact⟨u,hu,Og.2 hr⟩,h8,h9⟩
 |map m=>
  have hk: ∀i v,yF ρ F w m.kagg m.ksz (fun j=> .d (m.key i j)) v↔yF (fun x=>ρ (σ x)) F w m.kagg m.ksz (fun j=> .d (m.key i j)) v:=fun i v=>Jh (c:=fun j=> .d (m.key i j))
  constructor
  ·rintro ⟨k,base,cap,es,h1,h2,h3,h4,h5,h6⟩
   refine⟨k,base,cap,es,h1,h2,h3,h4,fun i hi j hj x hx=> ?_,fun i hi=> ?_⟩
   ·obtain⟨y,hy,e⟩:=List.mem_map.1 (h5 i hi j hj (σ x) (OI.2 ⟨x,hx,rfl⟩))
    rw [←hσ _ _ e];exact hy
   ·obtain⟨e,g1,g2,g3,g4⟩:=h6 i hi;exact⟨e,g1,g2,(hk _ _).1 g3,Jh.1 g4⟩
  ·rintro ⟨k,base,cap,es,h1,h2,h3,h4,h5,h6⟩
   refine⟨k,base,cap,es,h1,h2,h3,h4,fun i hi j hj x hx=> ?_,fun i hi=> ?_⟩
   ·obtain⟨y,hy,e⟩:=OI.1 hx
    exact List.mem_map.2 ⟨y,h5 i hi j hj y hy,e⟩
   ·obtain⟨e,g1,g2,g3,g4⟩:=h6 i hi;exact⟨e,g1,g2,(hk _ _).2 g3,Jh.2 g4⟩
 |loop r st sl=>
  constructor
  ·rintro ⟨k,base,cap,fn,tmps,D,h1,h2,h3,h4,h5,h6⟩
   refine⟨k,base,cap,fn,tmps,D,h1,h2,h3,h4,h5,fun t tv ht=> ?_⟩
   obtain⟨v,hv,hr⟩:=h6 t (tv.ren σ) (by rw [xO,ht];rfl)
   exact⟨v,hv,D5.1 hr⟩
  ·rintro ⟨k,base,cap,fn,tmps,D,h1,h2,h3,h4,h5,h6⟩
   refine⟨k,base,cap,fn,tmps,D,h1,h2,h3,h4,h5,fun t tv ht=> ?_⟩
   rw [xO]at ht
   cases hg:get sl t with
   |none=>rw [hg]at ht;cases ht
   |some tv'=>rw [hg]at ht;cases ht;obtain⟨v,hv,hr⟩:=h6 t tv' hg;exact⟨v,hv,D5.2 hr⟩
 |coll=>exact Iff.rfl
 |suf b0 l esz=>exact Iff.rfl
end
structure Rn (σ τ:Nat→Nat):Prop where
 st: ∀x,σ (τ x)=x
 ts: ∀x,τ (σ x)=x
theorem Rn.inj {σ τ:Nat→Nat} (r:Rn σ τ) {x y:Nat} (h:σ x=σ y):x=y:=by rw [←r.ts x,h,r.ts]
theorem OX {σ τ:Nat→Nat} (r:Rn σ τ): ∀(h:List (Nat × Option Ob)) (b:Nat),get (xM σ h) (σ b)=(get h b).map (Option.map (Ob.ren σ))
 |[],_=>rfl
 |(k,x)::h,b=>by
  show get ((σ k,x.map (Ob.ren σ))::xM σ h) (σ b)=_
  rw [aJ,aJ,OX r h b]
  by_cases e:k=b
  ·rw [if_pos e,if_pos (by rw [e])];rfl
  ·rw [if_neg e,if_neg (fun e'=>e (r.inj e'))]
theorem ME {σ τ:Nat→Nat} (r:Rn σ τ) {B:Base} {ρ0:Nat→Option Pl} {ρ:Nat→Option Pl} {F:Nat→Prop} {w:World} {h:List (Nat × Option Ob)}:
  HI B ρ F w (bU (xM σ h))↔HI {B with ρ:=ρ0} (fun x=>ρ (σ x)) F w (bU h):=by
 have hg: ∀b,bU (xM σ h) (σ b)=(bU h b).map (Option.map (Ob.ren σ)):=OX r h
 have hg': ∀b,bU (xM σ h) b=(bU h (τ b)).map (Option.map (Ob.ren σ)):=fun b=>by rw [←hg,r.st]
 have key: ∀b ob,bU h b=some (some ob)→bU (xM σ h) (σ b)=some (some (ob.ren σ)):=fun b ob hh=>by rw [hg,hh];rfl
 have key': ∀b ob',bU (xM σ h) b=some (some ob')→ ∃ob,bU h (τ b)=some (some ob)∧ob'=ob.ren σ:=fun b ob' hh=>by
  rw [hg']at hh
  cases h1:bU h (τ b)with
  |none=>rw [h1]at hh;cases hh
  |some o=>cases o with
   |none=>rw [h1]at hh;cases hh
   |some ob=>rw [h1]at hh;cases hh;exact⟨ob,rfl,rfl⟩
 constructor
 ·rintro ⟨ft,hi⟩
  refine⟨fun b=>ft (σ b),fun b ob hh=>(OH fun _ _=>r.inj).1 (hi.obj _ _ (key b ob hh)),fun b ob k hh hk=>hi.blk _ _ k (key b ob hh) hk,fun b b' ob ob' k h1 h2 k1 k2=>r.inj (hi.dis _ _ _ _ k (key _ _ h1) (key _ _ h2) k1 k2),fun b hb=>hi.fresh _ ?_⟩
  rw [hg,hb];rfl
 ·rintro ⟨ft,hi⟩
  refine⟨fun b=>ft (τ b),fun b ob' hh=> ?_,fun b ob' k hh hk=> ?_,fun b b' ob ob' k h1 h2 k1 k2=> ?_,fun b hb=> ?_⟩
  ·obtain⟨ob,h1,rfl⟩:=key' b ob' hh
   have:=(OH fun _ _=>r.inj).2 (hi.obj _ _ h1)
   rwa [r.st]at this
  ·obtain⟨ob,h1,rfl⟩:=key' b ob' hh
   exact hi.blk _ _ k h1 hk
  ·obtain⟨o1,g1,_⟩:=key' b ob h1
   obtain⟨o2,g2,_⟩:=key' b' ob' h2
   have:=hi.dis _ _ _ _ k g1 g2 k1 k2
   rw [←r.st b,this,r.st]
  ·have:=hi.fresh (τ b) (by
    have:=hg' b;rw [hb]at this
    cases h1:bU h (τ b)with
    |none=>rfl
    |some o=>rw [h1]at this;cases this)
   simpa [r.st]using this
theorem Fn.ren {σ τ:Nat→Nat} (r:Rn σ τ) {P:Program} {f:FuncId} {args:List SV} {hin hout:List (Nat × Option Ob)} {res:TV} (h:Fn P f args hin res hout):
  Fn P f (args.map (SV.ren σ)) (xM σ hin) (res.ren σ) (xM σ hout):=by
 refine⟨h.1,fun B vs hF hi hr=> ?_⟩
 have hc:=h.2 {B with ρ:=fun x=>B.ρ (σ x)} vs hF ((ME r).1 hi) (yN (σ:=σ).1 hr)
 refine Calls.mono hc ?_
 rintro e w' ⟨v,ρ',F',rfl,hf,h1,h2⟩
 refine⟨v,fun x=>ρ' (τ x),F',rfl, ?_, ?_, ?_⟩
 ·refine⟨hf.os,hf.tape,hf.output,hf.size,hf.mem,fun b p hb=>hf.rho (τ b) p ?_,hf.fz,hf.bf⟩
  show B.ρ (σ (τ b))=some p
  rw [r.st];exact hb
 ·refine(ME (ρ0:=fun x=>B.ρ (σ x)) r).2 ?_
  have:(fun x=>(fun x=>ρ' (τ x)) (σ x))=ρ':=by funext x;simp [r.ts]
  rw [this];exact h1
 ·refine D5.2 ?_
  have:(fun x=>(fun x=>ρ' (τ x)) (σ x))=ρ':=by funext x;simp [r.ts]
  rw [this];exact h2
def sw (a b x:Nat):Nat:=bif Nat.beq x a then b else bif Nat.beq x b then a else x
def swp:List (Nat × Nat)→Nat→Nat
 |[],x=>x
 |(a,b)::l,x=>swp l (sw a b x)
def EQ:List (Nat × Nat)→Nat→Nat
 |[],x=>x
 |(a,b)::l,x=>sw a b (EQ l x)
theorem RA (a b x:Nat):sw a b x=if x=a then b else if x=b then a else x:=by
 unfold sw
 cases h:Nat.beq x a with
 |true=>rw [if_pos (Nat.eq_of_beq_eq_true h)];rfl
 |false=>
  rw [if_neg (Nat.ne_of_beq_eq_false h)]
  cases h':Nat.beq x b with
  |true=>rw [if_pos (Nat.eq_of_beq_eq_true h')];rfl
  |false=>rw [if_neg (Nat.ne_of_beq_eq_false h')];rfl
theorem Zu (a b x:Nat):sw a b (sw a b x)=x:=by
 rw [RA a b x]
 by_cases h1:x=a
 ·rw [if_pos h1,RA]
  by_cases h3:b=a
  ·rw [if_pos h3,h1,h3]
  ·rw [if_neg h3,if_pos rfl,h1]
 ·rw [if_neg h1]
  by_cases h2:x=b
  ·rw [if_pos h2,RA,if_pos rfl,h2]
  ·rw [if_neg h2,RA,if_neg h1,if_neg h2]
theorem LV: ∀l:List (Nat × Nat),Rn (swp l) (EQ l)
 |[]=> ⟨fun _=>rfl,fun _=>rfl⟩
 |(a,b)::l=> ⟨fun x=>by show swp l (sw a b (sw a b (EQ l x)))=x;rw [Zu,(LV l).st],fun x=>by show sw a b (EQ l (swp l (sw a b x)))=x;rw [(LV l).ts,Zu]⟩
theorem Fn.VH {P:Program} {f:FuncId} {args args':List SV} {hin hin' hout hout':List (Nat × Option Ob)} {res res':TV} (l:List (Nat × Nat)) (h:Fn P f args hin res hout)
  (e1:args.map (SV.ren (swp l))=args') (e2:xM (swp l) hin=hin') (e3:res.ren (swp l)=res') (e4:xM (swp l) hout=hout'):Fn P f args' hin' res' hout':=by
 subst e1;subst e2;subst e3;subst e4
 exact h.ren (LV l)
theorem Fn.leH {P:Program} {f:Nat} {args args':List SV} {hin hin' hout:List (Nat × Option Ob)} {res:TV} (h:Fn P f args hin res hout) (hl:KE args' args) (hh:sG hin' hin):Fn P f args' hin' res hout:=
 ⟨h.1,fun B vs hF hi hr=>h.2 B vs hF (hi.le hh) (hl.UG hr)⟩
theorem Fn.leR {P:Program} {f:Nat} {args:List SV} {hin hout hout':List (Nat × Option Ob)} {res res':TV} (h:Fn P f args hin res hout) (hl:zu res res') (hh:sG hout hout'):Fn P f args hin res' hout':=
 ⟨h.1,fun B vs hF hi hr=>Calls.mono (h.2 B vs hF hi hr) fun e w' ⟨v,ρ',F',h1,h2,h3,h4⟩=> ⟨v,ρ',F',h1,h2,h3.le hh,hl _ _ _ _ h4⟩⟩
def Rx:DV→Bool
 | .int _ _| .bool _| .str _| .nilp| .nilf| .nilm=>true
 |_=>false
def Le:CV→Bool
 | .d x=>Rx x
 |_=>false
def RG:SV→Bool
 | .one c=>Le c
 | .agg cs=>cs.all Le
def Zn:TV→Bool
 | .v s=>RG s
 | .iP l=>l.all RG
section
variable {ρ ρ':Nat→Option Pl} {F F':Nat→Prop} {w w':World}
theorem KQ {c:CV} {v:Value} (h:Le c=true) (hr:iX ρ F w c v):iX ρ' F' w' c v:=by
 cases c with
 |d x=>cases x<;>first|exact hr|simp [Le,Rx]at h
 |_=>simp [Le]at h
theorem K8: ∀{cs:List CV} {vs:List Value},cs.all Le=true→cu ρ F w cs vs→cu ρ' F' w' cs vs
 |[],[],_,_=>trivial
 |c::cs,v::vs,h,⟨h1,h2⟩=>by
  simp only [List.all_cons,Bool.and_eq_true]at h
  exact⟨KQ h.1 h1,K8 h.2 h2⟩
 |[],_::_,_,h=>h.elim
 |_::_,[],_,h=>h.elim
theorem KY {s:SV} {v:Value} (h:RG s=true) (hr:jr ρ F w s v):jr ρ' F' w' s v:=by
 cases s with
 |one c=>exact KQ h hr
 |agg cs=>obtain⟨vs,e,hl⟩:=hr;exact⟨vs,e,K8 h hl⟩
theorem Il: ∀{cs:List SV} {vs:List Value},cs.all RG=true→gm ρ F w cs vs→gm ρ' F' w' cs vs
 |[],[],_,_=>trivial
 |c::cs,v::vs,h,⟨h1,h2⟩=>by
  simp only [List.all_cons,Bool.and_eq_true]at h
  exact⟨KY h.1 h1,Il h.2 h2⟩
 |[],_::_,_,h=>h.elim
 |_::_,[],_,h=>h.elim
theorem TG {t:TV} {v:Value} (h:Zn t=true) (hr:cK ρ F w t v):cK ρ' F' w' t v:=by
 cases t with
 |v s=>exact KY h hr
 |iP l=>obtain⟨vs,e,hl⟩:=hr;exact⟨vs,e,Il h hl⟩
end
theorem Fn.Ep {P:Program} {f:Nat} {args args':List SV} {hin:List (Nat × Option Ob)} {res:TV} {frz:List Nat} {p:List Prop} (h:Fn P f args [] res []) (he:Gi ⟨frz,[]⟩ (bU hin) args'=some (p,args)) (hp:All p) (hres:Zn res=true):
  Fn P f args' hin res hin:=by
 refine⟨h.1,fun B vs hF hi hr=> ?_⟩
 obtain⟨ft,hi⟩:=hi
 have hfr:Fr B B.ρ B.F B.w:=⟨rfl,rfl, .refl _,Nat.le_refl _,fun _ _ _=>rfl,fun _ _ h=>h,fun k hk=> ⟨hF k hk, .inl hk⟩,fun _ h=>h⟩
 have hr2:=FP (f:=⟨frz,[]⟩) List.nodup_nil hi he hp hr
 have hF2: ∀k,DW ft B.F (bU hin) frz k→k<B.w.heap.size:=fun k hk=>by
  rcases hk with hk|⟨b,ob,_,hob,hk⟩
  ·exact hF k hk
  ·exact(hi.blk b ob k hob hk).1
 refine Calls.mono (h.2 ⟨B.w,DI B.ρ [],DW ft B.F (bU hin) frz,(fun _=>False),0⟩ vs hF2 ⟨fun _ _=>False,⟨fun _ _ hh=>by simp [bU,get]at hh,fun _ _ _ hh=>by simp [bU,get]at hh,fun _ _ _ _ _ hh=>by simp [bU,get]at hh,fun _ _=>rfl⟩⟩ hr2) ?_
 rintro e w' ⟨v,ρ',F',rfl,h1,h2,h3⟩
 have hmem: ∀k,k<B.w.heap.size→w'.heap[k]? =B.w.heap[k]? :=fun k hk=>h1.mem k hk fun hh=>hh
 have g:Gr B.ρ B.F B.w B.ρ B.F w':=⟨fun _ _ h=>h,fun _ h=>h,fun k hk=>hmem k (hF k hk)⟩
 refine⟨v,B.ρ,B.F,rfl,⟨h1.os,h1.tape,h1.output,h1.size,fun k hk _=>hmem k hk,fun _ _ h=>h,fun k hk=> ⟨Nat.lt_of_lt_of_le (hF k hk) h1.size, .inl hk⟩,fun _ h=>h⟩,⟨ft, ?_⟩,TG hres h3⟩
 exact hi.step g hfr h1.size (fun _=>False) (fun b ob _ hb=> ⟨hb,fun k hk=>hmem k (hi.blk b ob k hb hk).1,fun _=>Iff.rfl⟩) (fun _ _ h=>h.elim) (fun _ _ _ h=>h.elim) (fun _ _ _ _ _ h=>h.elim) (fun k hk=> .inl hk) hi.fresh
section
variable {κ α:Type}
def gJ (eq:κ→κ→Bool) (k:κ) (v:α):List (κ × α)→List (κ × α)
 |[]=>[(k,v)]
 |(k',v')::l=>bif eq k k' then(k,v)::l else(k',v')::gJ eq k v l
def J4 (a b:Int):Bool:=decide (a=b) && true
def yg [Inhabited κ] (kc:κ→Nat→DV) (l:List (κ × α)):Nat→Nat→DV:=au kc (l.map (·.1))
def yc [Inhabited α] (vc:α→Nat→DV) (l:List (κ × α)):Nat→Nat→CV:=fun i j=> .d (au vc (l.map (·.2)) i j)
def Ry [Inhabited κ] [Inhabited α] (K V:TypeId) (ka va:Bool) (ksz vsz:Nat) (kc:κ→Nat→DV) (vc:α→Nat→DV) (l:List (κ × α)):Ob:= .map ⟨K,V,ka,va,ksz,vsz,l.length,yg kc l,yc vc l,[]⟩
section
variable [Inhabited κ] [Inhabited α] {eq:κ→κ→Bool} {kc:κ→Nat→DV} {vc:α→Nat→DV} {ks:List (Option IntKind)} {ksz vsz:Nat}
theorem IY (x:κ × α) (l:List (κ × α)):yg kc (x::l) 0=kc x.1:=rfl
theorem Bv (x:κ × α) (l:List (κ × α)) (i:Nat):yg kc (x::l) (i+1)=yg kc l i:=by
 funext j;simp [yg,au,at']
theorem Wd (x:κ × α) (l:List (κ × α)):yc vc (x::l) 0=fun j=> .d (vc x.2 j):=rfl
theorem Ik (x:κ × α) (l:List (κ × α)) (i:Nat):yc vc (x::l) (i+1)=yc vc l i:=by
 funext j;simp [yc,au,at']
theorem WC (hk: ∀x,aF ks (fE (kc x) 0 ksz)=true): ∀(l:List (κ × α)) (i:Nat),i<l.length→aF ks (fE (yg kc l i) 0 ksz)=true
 |l,i,_=>hk _
theorem q9 (hk: ∀x,aF ks (fE (kc x) 0 ksz)=true) (he: ∀a b,mU (fE (kc a) 0 ksz) (fE (kc b) 0 ksz)=some (eq a b)) (l:List (κ × α)) (k:κ) (v:α) {kd:List DV} {vd:List CV}
  (hkd:kd=fE (kc k) 0 ksz) (hvd:vd=iD (fun j=> .d (vc v j)) 0 vsz):
  Au ks ksz vsz l.length (yg kc l) (yc vc l) kd vd [] (gJ eq k v l).length (yg kc (gJ eq k v l)) (yc vc (gJ eq k v l)):=by
 subst hkd;subst hvd
 refine⟨WC hk l,fun i _ j _ x hx=>by simp [yc,CV.eX]at hx, ?_⟩
 induction l with
 |nil=>exact⟨0,fun i' hi'=>absurd hi' (Nat.not_lt_zero i'), .inr ⟨rfl,rfl⟩,rfl,rfl,fun i' hi'=>absurd hi' (Nat.not_lt_zero i')⟩
 |cons x l ih=>
  obtain⟨k',v'⟩:=x
  cases hb:eq k k' with
  |true=>
   have h0:gJ eq k v ((k',v')::l)=(k,v)::l:=by simp [gJ,hb]
   rw [h0]
   refine⟨0,fun i' hi'=>absurd hi' (Nat.not_lt_zero i'), .inl ⟨by simp,by rw [IY,he,hb],rfl⟩,rfl,rfl,fun i' hi' hne=> ?_⟩
   cases i' with
   |zero=>exact absurd rfl hne
   |succ i'=>simp only [Bv,Ik,and_self]
  |false=>
   have h0:gJ eq k v ((k',v')::l)=(k',v')::gJ eq k v l:=by simp [gJ,hb]
   rw [h0]
   obtain⟨i,h1,h2,h3,h4,h5⟩:=ih
   refine⟨i+1,fun i' hi'=> ?_, ?_,by rw [Bv];exact h3,by rw [Ik];exact h4,fun i' hi' hne=> ?_⟩
   ·cases i' with
    |zero=>rw [IY,he,hb]
    |succ i'=>rw [Bv];exact h1 i' (by omega)
   ·rcases h2 with⟨a,b,c⟩|⟨a,b⟩
    ·exact .inl ⟨by simp;omega,by rw [Bv];exact b,by simp [c]⟩
    ·exact .inr ⟨by simp [a],by simp [b]⟩
   ·cases i' with
    |zero=>simp only [IY,Wd,and_self]
    |succ i'=>
     simp only [Bv,Ik]
     exact h5 i' (by simpa using hi') (by omega)
end
end
theorem Sj {n sz:Nat} {cs:List CV} {g:Nat→List CV} (h: ∀q,q<n→(cs.drop (q*sz)).take sz=g q) {i:Int} (hi:0≤i∧i<(n:Int)):(cs.drop (i.toNat*sz)).take sz=g i.toNat:=h _ (by omega)
theorem Tx {n sz m:Nat} (hm:n*sz≤m) {i:Int} (hi:0≤i∧i<(n:Int)):i.toNat*sz+sz≤m:=by
 have:(i.toNat+1)*sz≤n*sz:=Nat.mul_le_mul_right _ (by omega)
 rw [Nat.add_mul,Nat.one_mul]at this;omega
def NM:List Nat→Code→Code
 |[],c=>c
 |i::l,c=>match c,i with
  | .seq x _,0=>NM l x
  | .seq _ y,_=>NM l y
  | .cond _ x _,0=>NM l x
  | .cond _ _ y,_=>NM l y
  | .block _ x,_=>NM l x
  | .loop x,_=>NM l x
  | .scope x,_=>NM l x
  | .rangeFunc _ _ x _,0=>NM l x
  | .rangeFunc _ _ _ y,_=>NM l y
  |c,_=>c
def sW (f:Func):Code:=match f.body with|some c=>c|none=> .skip
theorem Ny.of {x y:Option Ob} (h:x=y):Ny x y:=h ▸ .refl x
section
variable {rd:Option Nat} {P:Program} {B:Base} {N:Nat} {L:List Nat} {Q:Exit→St→Prop} {st st':St}
theorem wE {g:Operand} {ps:List Nat} {assign body:Code} (lb:Nat) (sl:List (Nat × TV)) (outs:List Code) (ids:List Nat) (res:TV) (hout:List (Nat × Option Ob)) (gv:TV) (f:FuncId) (c1 c2:List CV) (hin:List (Nat × Option Ob)) (args:List SV) (r':iG) (stt:Nat) (sl':List (Nat × TV)) {e:Exit}
  (hg:BZ st g=some gv) (hf:Xk gv=some (f,c1,c2)) (hlb:get st.heap lb=none) (hsl:sl.map (fun p=>get st.slots p.1)=sl.map fun p=>some p.2)
  (hin1:dH ids (ids.map (bU ((lb,some (.loop ⟨ps,assign,body,N,outs⟩ 0 sl))::st.heap)))=some hin)
  (hok:(mZ ((c1++CV.yl lb::c2).flatMap CV.eX) ids && mZ (jJ (ids.map (bU ((lb,some (.loop ⟨ps,assign,body,N,outs⟩ 0 sl))::st.heap)))) ids && kJ ids (hout.map (·.1)) ((hout.map (·.1)).map (bU ((lb,some (.loop ⟨ps,assign,body,N,outs⟩ 0 sl))::st.heap))))=true)
  (ha:args=(c1++CV.yl lb::c2).map .one) (hfn:Fn P f args hin res hout) (hlo:get hout lb=some (some (.loop r' stt sl'))) (hr':r'.outs=outs) (hx:Kh outs stt e)
  (hi:d9 B N L ⟨st.slots,(lb,none)::(hout++(ids.map (fun i=>(i,none))++st.heap))⟩ st') (hQ:Q e st'):jE none P B N L (.rangeFunc g ps.toArray assign body) Q st:=by
 subst ha
 refine ow (Cn lb sl outs ids res hout hg hf hlb (fun p hp=> ?_) hin1 hok hfn hlo hr' hx ⟨st',hi,hQ⟩)
 obtain⟨j,hj⟩:=List.getElem?_of_mem hp
 have:=congrArg (fun l=>l[j]?) hsl
 simp only [List.getElem?_map,hj,Option.map_some,Option.some.injEq]at this
 exact this
end
section
variable (rd:Option Nat) (P:Program) (B:Base) (N:Nat) (L:List Nat) (c:Code) (Q:Exit→St→Prop)
def LoopN:Nat→St→Prop
 |0,_=>False
 |m+1,st=>jE rd P B N L c (fun e st'=>match e with| .normal=>LoopN m st'|e=>Q e st') st
end
section
variable {rd:Option Nat} {P:Program} {B:Base} {N:Nat} {L:List Nat} {Q:Exit→St→Prop} {st:St} {c:Code}
theorem TL (m:Nat) (h:LoopN rd P B N L c Q m st):jE rd P B N L (.loop c) Q st:=by
 intro a w hc
 refine wpIn_loop_rounds m ?_
 revert st a w
 induction m with
 |zero=>intro st h;exact h.elim
 |succ m ih=>
  intro st h a w hc
  rw [roundsIn_succ]
  refine wpIn_mono (h a w hc) ?_
  rintro e a' w' ⟨st',h1,h2⟩
  cases e with
  |normal=>exact ih h1 a' w' h2
  |exit id=>exact⟨st',h1,h2⟩
  |goto l=>exact⟨st',h1,h2⟩
  |ret=>exact⟨st',h1,h2⟩
  |panic v=>exact⟨st',h1,h2⟩
  |outgrown=>exact⟨st',h1,h2⟩
end
theorem Gp {P:Program} {b:Frame} {a:Act} {k:List Item} {cs:List Frame} {w:World} {c:Code}:Go.step P (lone (b.atR a (.code (.scope c)::k)) cs w)= .next (lone (b.atR a (.code c:: .inScope c::k)) cs w):=
 step_lone_go (by simp [stepG,stepG.exec,Frame.atR])
theorem Cr {P:Program} {b:Frame} {a:Act} {k:List Item} {cs:List Frame} {w:World} {c:Code}:Go.step P (lone (b.atR a (.inScope c::k)) cs w)= .next (lone (b.atR a k) cs w):=
 step_lone_go (by simp [stepG,stepG.exec,Frame.atR])
def GQ {σ ρ:Type} (l:Nat) (S:σ→St) (R:ρ→Exit→St→Prop):aM σ ρ→Exit→St→Prop
 | .next s,e,st=>e= .goto l∧st=S s
 | .done r,e,st=>(∀l',e≠ .goto l')∧R r e st
section
variable {rd:Option Nat} {P:Program} {B:Base} {N:Nat} {L:List Nat} {st:St}
theorem Rj {σ ρ:Type} {c rest:Code} (l:Nat) (hf:findLabel c l=some rest) (S:σ→St) (R:ρ→Exit→St→Prop) {body:σ→Option (aM σ ρ)} {n:Nat} {s0:σ} {o:ρ} (h:ay body n s0=some o)
  (hb: ∀s f,body s=some f→jE rd P B N L rest (GQ l S R f) (S s)) (h1: ∀f,body s0=some f→jE rd P B N L c (GQ l S R f) st):jE rd P B N L (.scope c) (R o) st:=by
 intro a w hc b k cs hro hbu hr
 have hg:gotoIn l (.inScope c::k)=some (.code rest:: .inScope c::k):=by simp [gotoIn,hf]
 have fin: ∀(m:Nat) (s:σ) (f:aM σ ρ) (x:Code) (a:Act) (w:World),ay body (m+1) s=some o→body s=some f→
   (∀s' a' w',ay body m s'=some o→Conc B N L (S s') a' w'→ ∃e a2 w2,(∃st',R o e st'∧Conc B N L st' a2 w2)∧ArrivesIn (Machine.fenced P (FW rd)) P (lone (b.atR a' (.code rest:: .inScope c::k)) cs w') b k cs e a2 w2)→
   (∃e a1 w1,(∃st',GQ l S R f e st'∧Conc B N L st' a1 w1)∧ArrivesIn (Machine.fenced P (FW rd)) P (lone (b.atR a (.code x:: .inScope c::k)) cs w) b (.inScope c::k) cs e a1 w1)→
   ∃e a2 w2,(∃st',R o e st'∧Conc B N L st' a2 w2)∧ArrivesIn (Machine.fenced P (FW rd)) P (lone (b.atR a (.code x:: .inScope c::k)) cs w) b k cs e a2 w2:=by
  rintro m s f x a w hl hbs ih ⟨e,a1,w1,⟨st',hq,hconc⟩,harr⟩
  rw [aS,hbs]at hl
  cases f with
  |next s'=>
   obtain⟨rfl,rfl⟩:=hq
   obtain⟨e2,a2,w2,hq2,harr2⟩:=ih s' a1 w1 hl hconc
   exact⟨e2,a2,w2,hq2, .of_steps (harr.1 _ hg) harr2⟩
  |done r=>
   obtain⟨hng,hR⟩:=hq
   simp only [Option.some.injEq]at hl
   subst hl
   cases e with
   |normal=>exact⟨.normal,a1,w1,⟨st',hR,hconc⟩,StepsIn.trans harr (.one (fenced_calm hbu hr rfl) Cr)⟩
   |exit id=>
    have hx:exitTo id (.inScope c::k)=exitTo id k:=by simp [exitTo]
    exact⟨_,a1,w1,⟨st',hR,hconc⟩,fun k' hk=>harr.1 k' (by rw [hx];exact hk),fun hr' hk=>harr.2 hr' (by rw [hx];exact hk)⟩
   |goto l'=>exact absurd rfl (hng l')
   |ret=>exact⟨_,a1,w1,⟨st',hR,hconc⟩,harr⟩
   |panic ch=>exact⟨_,a1,w1,⟨st',hR,hconc⟩,harr⟩
   |outgrown=>exact⟨_,a1,w1,⟨st',hR,hconc⟩,harr⟩
 have key: ∀m s a w,ay body m s=some o→Conc B N L (S s) a w→ ∃e a2 w2,(∃st',R o e st'∧Conc B N L st' a2 w2)∧ArrivesIn (Machine.fenced P (FW rd)) P (lone (b.atR a (.code rest:: .inScope c::k)) cs w) b k cs e a2 w2:=by
  intro m
  induction m with
  |zero=>intro s a w hl;cases hl
  |succ m ih=>
   intro s a w hl hconc
   cases hbs:body s with
   |none=>rw [aS,hbs]at hl;cases hl
   |some f=>exact fin m s f rest a w hl hbs (fun s' a' w' h1 h2=>ih s' a' w' h1 h2) (hb s f hbs a w hconc b (.inScope c::k) cs hro hbu hr)
 cases n with
 |zero=>cases h
 |succ n=>
  cases hbs:body s0 with
  |none=>rw [aS,hbs]at h;cases h
  |some f=>
   obtain⟨e,a2,w2,hq,harr⟩:=fin n s0 f c a w h hbs (fun s' a' w' h1 h2=>key n s' a' w' h1 h2) (h1 f hbs a w hc b (.inScope c::k) cs hro hbu hr)
   exact⟨e,a2,w2,hq, .of_steps (.one (fenced_calm hbu hr rfl) Gp) harr⟩
end
section
variable {rd:Option Nat} {P:Program} {B:Base} {N:Nat} {L:List Nat} {Q:Exit→St→Prop} {st:St}
end
theorem Yl.leH {P:Program} {b:Nat} {args args':List SV} {hin hin' hout:List (Nat × Option Ob)} {res:TV} (h:Yl P b args hin res hout) (hl:KE args' args) (hh:sG hin' hin):Yl P b args' hin' res hout:=
 fun B vs l base cap hF hi hr hb=>h B vs l base cap hF (hi.le hh) (hl.UG hr) hb
theorem Yl.leR {P:Program} {b:Nat} {args:List SV} {hin hout hout':List (Nat × Option Ob)} {res res':TV} (h:Yl P b args hin res hout) (hl:zu res res') (hh:sG hout hout'):Yl P b args hin res' hout':=by
 intro B vs l base cap hF hi hr hb
 obtain⟨fn,tmps,assign,body,h1,h2⟩:=h B vs l base cap hF hi hr hb
 refine⟨fn,tmps,assign,body,h1,h2.mono ?_⟩
 rintro e w' ⟨v,rfl,ρ',F',g1,g2,g3⟩
 exact⟨v,rfl,ρ',F',g1,g2.le hh,hl _ _ _ _ g3⟩
theorem Yl.VH {P:Program} {b b':Nat} {args args':List SV} {hin hin' hout hout':List (Nat × Option Ob)} {res res':TV} (l:List (Nat × Nat)) (h:Yl P b args hin res hout)
  (e0:swp l b=b') (e1:args.map (SV.ren (swp l))=args') (e2:xM (swp l) hin=hin') (e3:res.ren (swp l)=res') (e4:xM (swp l) hout=hout'):Yl P b' args' hin' res' hout':=by
 subst e0;subst e1;subst e2;subst e3;subst e4
 have r:=LV l
 intro B vs lp base cap hF hi hr hb
 obtain⟨fn,tmps,assign,body,h1,h2⟩:=h {B with ρ:=fun x=>B.ρ (swp l x)} vs lp base cap hF ((ME r).1 hi) (yN (σ:=swp l).1 hr) hb
 refine⟨fn,tmps,assign,body,h1,h2.mono ?_⟩
 rintro e w' ⟨v,rfl,ρ',F',hf,g1,g2⟩
 refine⟨v,rfl,fun x=>ρ' (EQ l x),F', ?_, ?_, ?_⟩
 ·refine⟨hf.os,hf.tape,hf.output,hf.size,hf.mem,fun b p hb=>hf.rho (EQ l b) p ?_,hf.fz,hf.bf⟩
  show B.ρ (swp l (EQ l b))=some p
  rw [r.st];exact hb
 ·refine(ME (ρ0:=fun x=>B.ρ (swp l x)) r).2 ?_
  have:(fun x=>(fun x=>ρ' (EQ l x)) (swp l x))=ρ':=by funext x;simp [r.ts]
  rw [this];exact g1
 ·refine D5.2 ?_
  have:(fun x=>(fun x=>ρ' (EQ l x)) (swp l x))=ρ':=by funext x;simp [r.ts]
  rw [this];exact g2
def DLs:List DV→List DV→Prop
 |[],[]=>True
 |x::xs,y::ys=>jL x y∧DLs xs ys
 |_,_=>False
theorem DLs.get: ∀{xs ys:List DV},DLs xs ys→xs.length=ys.length∧ ∀j,jL (xs.getD j .nilp) (ys.getD j .nilp)
 |[],[],_=> ⟨rfl,fun _=> .refl _⟩
 |x::xs,y::ys,⟨h1,h2⟩=>by
  obtain⟨g1,g2⟩:=DLs.get h2
  refine⟨by simp [g1],fun j=> ?_⟩
  cases j with
  |zero=>exact h1
  |succ j=>simpa using g2 j
 |[],_::_,h=>h.elim
 |_::_,[],h=>h.elim
theorem UN {ds es:List DV} {off:Nat} (h:DLs ds es):jL (CR ds off) (CR es off):=by
 obtain⟨h1,h2⟩:=h.get
 unfold CR
 rw [h1]
 exact jL.ip' (Nat.le_refl _) fun j _=>h2 _
def xQ {α:Type} [Inhabited α] (c:α→Nat→EV) (l:List α):Nat→Nat→EV:=fun i j=>c (at' l i) j
section
variable {α:Type} [Inhabited α]
theorem NE (c:α→Nat→EV) (l:List α) (n esz i off:Nat) (v:EV) (x:α) (hn:n=l.length) (h: ∀j,j<esz→c x j=if j=off then v else c (at' l i) j):XJ n esz (Z9 (xQ c l) i off v) (xQ c (l.set i x)):=by
 intro i' hi' j hj
 unfold Z9 xQ
 by_cases e:i'=i
 ·subst e
  rw [dB (by omega),h j hj]
  by_cases e2:j=off<;>simp [e2]
 ·rw [cO (Ne.symm e),if_neg (fun hh=>e hh.1)]
end
theorem Fn.nn {P:Program} {f:Nat} {esz len:Nat} {el:Nat→Nat→DV} {hin hout:List (Nat × Option Ob)} {res:TV} (h1:Fn P f [.one (.d (.sl (some true) esz len el))] hin res hout) (h2:len=0→Fn P f [.one (.d (.sl (some false) esz len el))] hin res hout):
  Fn P f [.one (.d (.sl none esz len el))] hin res hout:=by
 refine⟨h1.1,fun B vs hF hi hr=> ?_⟩
 match vs,hr with
 |[v],⟨⟨a,cap,hv,_,_,h3,h4,h5⟩,_⟩=>
  cases a with
  |none=>exact(h2 (h3 rfl).1).2 B [v] hF hi ⟨⟨none,cap,hv,(fun e=>by cases e),fun _=>rfl,h3,h4,h5⟩,trivial⟩
  |some ad=>exact h1.2 B [v] hF hi ⟨⟨some ad,cap,hv,fun _ e=>(by cases e),(fun e=>by cases e),h3,h4,h5⟩,trivial⟩
 |[],hr=>exact hr.elim
 |_::_::_,hr=>exact hr.2.elim
section
variable {B:Base} {N:Nat} {L:List Nat} {st:St}
theorem d9.adR {p q b b' E esz n:Nat} {el:Nat→Nat→DV} {E0:TypeId} {cs:List CV} {nn:Bool} {len:Nat} (hp:get st.heap p=some (some (.cells E0 cs))) (hq:cs[q]? =some (.own b nn len)) (hb:get st.heap b=some (some (.arr E esz n el))) (hb':get st.heap b'=none):
  d9 B N L st ⟨st.slots,(p,some (.cells E0 (cs.set q (.own b' nn len))))::(b',some (.arr E esz n el))::(b,none)::st.heap⟩:=by
 intro a w hc
 obtain⟨⟨ρ,F,hfr,⟨ft,hi⟩,hs,dn⟩,hid,sz⟩:=hc
 have hρ:=hi.fresh b' hb'
 have hpb:p≠b:=fun e=>by rw [e,hb]at hp;cases hp
 have hpb':p≠b':=fun e=>by rw [e,hb']at hp;cases hp
 have hbb':b≠b':=fun e=>by rw [e,hb']at hb;cases hb
 obtain⟨pl,hpl⟩: ∃pl,ρ b=some pl:=by
  rcases hi.obj b _ hb with⟨h,_⟩|⟨k,base,cap,h,_⟩<;>exact⟨_,h⟩
 have hu: ∀x,bU ((p,some (.cells E0 (cs.set q (.own b' nn len))))::(b',some (.arr E esz n el))::(b,none)::st.heap) x=if p=x then some (some (.cells E0 (cs.set q (.own b' nn len))))else if b'=x then some (some (.arr E esz n el))else if b=x then some none else bU st.heap x:=fun x=>by simp only [bU];rw [aJ,aJ,aJ]
 have g:Gr ρ F w (dS ρ b' pl) F w:=⟨bP hρ,fun _ h=>h,fun _ _=>rfl⟩
 have hlive: ∀x ox,(x=p∨x=b'∨x=b)→bU ((p,some (.cells E0 (cs.set q (.own b' nn len))))::(b',some (.arr E esz n el))::(b,none)::st.heap) x=some (some ox)→(x=p∧ox= .cells E0 (cs.set q (.own b' nn len)))∨(x=b'∧ox= .arr E esz n el):=fun x ox hx hh=>by
  rw [hu]at hh
  rcases hx with rfl|rfl|rfl
  ·rw [if_pos rfl]at hh;cases hh;exact .inl ⟨rfl,rfl⟩
  ·rw [if_neg hpb',if_pos rfl]at hh;cases hh;exact .inr ⟨rfl,rfl⟩
  ·rw [if_neg hpb,if_neg (Ne.symm hbb'),if_pos rfl]at hh;cases hh
 refine⟨⟨dS ρ b' pl,F,{hfr with rho:=fun x p' e=>bP hρ x p' (hfr.rho x p' e)},⟨AQ ft b' (ft b), ?_⟩,fun t' tv ht'=> ?_,dn⟩,hid,sz⟩
 ·refine hi.step g hfr (Nat.le_refl _) (fun x=>x=p∨x=b'∨x=b) (fun x ox hx hh=> ?_) (fun x ox hx hh=> ?_) (fun x ox k hx hh hf=> ?_) (fun x y ox oy k hx hy h1 h2 f1 f2=> ?_) (fun k hk=> .inl hk) fun x hh=> ?_
  ·rw [hu,if_neg (fun e=>hx (.inl e.symm)),if_neg (fun e=>hx (.inr (.inl e.symm))),if_neg (fun e=>hx (.inr (.inr e.symm)))]at hh
   exact⟨hh,fun _ _=>rfl,fun k=>by rw [mG (fun e=>hx (.inr (.inl e)))]⟩
  ·rcases hlive x ox hx hh with⟨rfl,rfl⟩|⟨rfl,rfl⟩
   ·rw [mG hpb']
    obtain⟨k,cap,vs,x1,x0,x2,x3⟩:=hi.obj x _ hp
    refine⟨k,cap,vs,bP hρ _ _ x1,x0,x2,cu.tK (by rw [x3.length,List.length_set]) fun j c hj=> ?_⟩
    rw [List.getElem?_set]at hj
    split at hj
    ·rename_i e;subst e
     split at hj
     ·cases hj
      obtain⟨u,hu',hr⟩:=x3.get hq
      refine⟨u,hu', ?_⟩
      rcases hr with⟨k,base,cap,e1,e2⟩|⟨e0,e1,e2,e3⟩
      ·rw [hpl]at e1;cases e1
       exact .inl ⟨k,base,cap,aH _ _,e2⟩
      ·rw [hpl]at e1;cases e1
       exact .inr ⟨e0,aH _ _,e2,e3⟩
     ·cases hj
    ·obtain⟨u,hu',hr⟩:=x3.get hj
     exact⟨u,hu',hr.gr g⟩
   ·rw [eU]
    rcases hi.obj b _ hb with⟨h,h0⟩|⟨k,base,cap,h,h1,h2⟩
    ·rw [hpl]at h;cases h;exact .inl ⟨aH _ _,h0⟩
    ·rw [hpl]at h;cases h;exact .inr ⟨k,base,cap,aH _ _,h1,h2⟩
  ·rcases hlive x ox hx hh with⟨rfl,rfl⟩|⟨rfl,rfl⟩
   ·rw [mG hpb']at hf
    exact .inl ⟨x,_, .inl rfl,hp,hf⟩
   ·rw [eU]at hf
    exact .inl ⟨b,_, .inr (.inr rfl),hb,hf⟩
  ·rcases hlive x ox hx h1 with⟨rfl,rfl⟩|⟨rfl,rfl⟩<;>rcases hlive y oy hy h2 with⟨rfl,rfl⟩|⟨rfl,rfl⟩
   ·rfl
   ·rw [mG hpb']at f1;rw [eU]at f2
    exact absurd (hi.dis _ _ _ _ k hp hb f1 f2) hpb
   ·rw [eU]at f1;rw [mG hpb']at f2
    exact absurd (hi.dis _ _ _ _ k hb hp f1 f2).symm hpb
   ·rfl
  ·rw [hu]at hh
   split at hh
   ·cases hh
   ·split at hh
    ·cases hh
    ·split at hh
     ·cases hh
     ·rename_i e1 e2 e3
      have:=hi.fresh x hh
      simp only [dS];rw [if_neg (Ne.symm e2)];exact this
 ·obtain⟨v,hv,hr⟩:=hs t' tv ht'
  exact⟨v,hv,hr.gr g⟩
end
theorem Hu {E esz n:Nat} {f g:Nat→Nat→DV} (h: ∀i,i<n→ ∀j,j<esz→jL (f i j) (g i j)):Ny (some (.arr E esz n f)) (some (.arr E esz n g)):=by
 rintro ρ F w S b (hr|⟨k,base,cap,x1,x0,vs,x2,x3,x4,x5,x6⟩)
 ·exact .inl hr
 ·exact .inr ⟨k,base,cap,x1,x0,vs,x2,x3,x4,x5,fun i hi j hj=>by
   obtain⟨u,hu,hr⟩:=x6 i hi j hj
   exact⟨u,hu,h i hi j hj _ _ _ hr⟩⟩
theorem agV {α:Type} [Inhabited α] (c:α→Nat→DV) (l m:List α) (esz:Nat) {raw:Nat→Nat→DV} (h: ∀i,i<m.length→ ∀j,j<esz→jL (raw i j) (au c m i j)): ∀i,i<(l++m).length→ ∀j,j<esz→jL (sV (au c l) l.length raw i j) (au c (l++m) i j):=by
 intro i hi j hj
 unfold sV
 by_cases hl:i<l.length
 ·rw [if_pos hl]
  show jL (c (at' l i) j) (c (at' (l++m) i) j)
  rw [zJ hl];exact .refl _
 ·rw [if_neg hl]
  show jL _ (c (at' (l++m) i) j)
  rw [yt (by omega)]
  exact h (i - l.length) (by rw [List.length_append]at hi;omega) j hj
theorem Ya {α:Type} [Inhabited α] (l:List α) (k i:Nat):at' (l.drop k) i=at' l (i+k):=by
 unfold at';rw [List.getD_eq_getElem?_getD,List.getD_eq_getElem?_getD,List.getElem?_drop,Nat.add_comm]
theorem afA {α:Type} [Inhabited α] (c:α→Nat→DV) (n esz:Nat) (z:List DV) (x:α) (h: ∀j,j<esz→jL (z.getD j .nilp) (c x j)): ∀i,i<(List.replicate n x).length→ ∀j,j<esz→jL ((fun(_:Nat) j=>z.getD j .nilp) i j) (au c (List.replicate n x) i j):=by
 intro i hi j hj
 show jL (z.getD j .nilp) _
 unfold au
 rw [dm (by simpa using hi)]
 exact h j hj
theorem jL.slN {nn rX:Option Bool} {esz len m:Nat} {f g:Nat→Nat→DV} (hl:len=m) (hn:rX=none∨rX=nn) (h: ∀i,i<len→ ∀j,j<esz→jL (f i j) (g i j)):jL (.sl nn esz len f) (.sl rX esz m g):=hl ▸ jL.sl hn h
theorem toNat_lt {i:Int} {n:Nat} (h:(0:Int)≤i∧i<(n:Int)):i.toNat<n:=by omega
def agS (l:List (Nat × Option Ob)):CV→Bool
 | .d x=>Rx x
 | .own b _ _=>(get l b).isSome
 |_=>false
def acg (l:List (Nat × Option Ob)):Ob→Prop
 | .cells _ cs=>cs.all (agS l)=true
 | .arr _ _ _ el=> ∀i j,Rx (el i j)=true
 |_=>False
def Uk (l:List (Nat × Option Ob)):List (Nat × Option Ob)→Prop
 |[]=>True
 |(_,none)::r=>Uk l r
 |(_,some o)::r=>acg l o∧Uk l r
section
variable {ρ ρ':Nat→Option Pl} {F F':Nat→Prop} {w w':World} {l:List (Nat × Option Ob)}
theorem Uk.get: ∀{m:List (Nat × Option Ob)},Uk l m→ ∀{b:Nat} {o:Ob},Sg.get m b=some (some o)→acg l o
 |[],_,b,o,h=>by cases h
 |(b0,x)::m,hm,b,o,h=>by
  rw [aJ]at h
  split at h
  ·cases h;exact hm.1
  ·cases x with
   |none=>exact Uk.get (m:=m) hm h
   |some _=>exact Uk.get hm.2 h
end
abbrev nS:DV:= .sl (some false) 0 0 fun _ _=> .nilp
structure RI where
 yb:List (Nat × Bool):=[]
 an:List (Nat × uH):=[]
 fr:List (Nat × Nat):=[]
def sJ {α:Type} (l:List (Nat × α)):List Nat:=l.map (·.1)
def aaX (frz:List Nat) (s:St):Fin:=⟨frz,s.heap.map fun p=>(p.1,p.1)⟩
def RI.on (x:RI) (frz:List Nat) (s:St):DZ:={yb:=ybf x.yb,an:=anf x.an,fr:=Xr x.fr,fin:=aaX frz s,ts:=sJ s.slots}
def af7 (a l:List Nat):List Nat:=l.foldl (fun acc x=>bif jb x acc then acc else x::acc) a
def aed:List Oper→Nat→List (Nat × List Nat)→List (Nat × List Nat)
 |[],_,acc=>acc
 |o::os,i,acc=>aed os (i+1) ((i,o.after.toList.foldl (fun x e=>bif Region.binds .any e then af7 (af7 x [e.on]) (match get acc e.on with|some l=>l|none=>[])else x) [])::acc)
def ZW (ops:Array Oper):List (Nat × List Nat):=aed ops.toList 0 []
section
variable {rd:Option Nat} {P:Program} {B:Base} {N:Nat} {L:List Nat} {T:List (Nat × TI)} {Q:Exit→St→Prop} {st st':St} {id:Nat} {ops:Array Oper} {y:Code}
theorem rz (hT:su P T) (s:St) (x:RI) (frz:List Nat) (hQ:Q .normal s) (he:Nv (GX P) T ops N L (x.on frz s) st=some ([],s):=by kernel_rfl):jE rd P B N L (.region id ops false) Q st:=
 D8 hT s _ he trivial .refl hQ
theorem rg (hT:su P T) (s:St) (cs:List Prop) (x:RI) (frz:List Nat) (hc:All cs) (hQ:Q .normal s) (he:Nv (GX P) T ops N L (x.on frz s) st=some (cs,s):=by kernel_rfl):jE rd P B N L (.region id ops false) Q st:=
 D8 hT s _ he hc .refl hQ
theorem ri (hT:su P T) (s:St) (cs:List Prop) (x:RI) (frz:List Nat) (hc:All cs) (hi:d9 B N L s st') (hQ:Q .normal st') (he:Nv (GX P) T ops N L (x.on frz s) st=some (cs,s):=by kernel_rfl):jE rd P B N L (.region id ops false) Q st:=
 D8 hT s _ he hc hi hQ
theorem sz (hT:su P T) (s:St) (x:RI) (frz:List Nat) (hQ:jE rd P B N L y Q s) (he:Nv (GX P) T ops N L (x.on frz s) st=some ([],s):=by kernel_rfl):jE rd P B N L (.seq (.region id ops false) y) Q st:=
 uU (D8 hT s _ he trivial .refl hQ)
theorem si (hT:su P T) (s:St) (cs:List Prop) (x:RI) (frz:List Nat) (hc:All cs) (hi:d9 B N L s st') (hQ:jE rd P B N L y Q st') (he:Nv (GX P) T ops N L (x.on frz s) st=some (cs,s):=by kernel_rfl):jE rd P B N L (.seq (.region id ops false) y) Q st:=
 uU (D8 hT s _ he hc hi hQ)
theorem dg (hT:su P T) (hm:P.follows .mixedOrders=true) (s:St) (cs:List Prop) (x:RI) (frz:List Nat) (hc:All cs) (hQ:Q .normal s) (he:Ol (GX P) T ops N L (x.on frz s) (ZW ops) st=some (cs,s):=by kernel_rfl):jE rd P B N L (.region id ops true) Q st:=
 Ff hT hm s _ _ he hc .refl hQ
theorem di (hT:su P T) (hm:P.follows .mixedOrders=true) (s:St) (cs:List Prop) (x:RI) (frz:List Nat) (hc:All cs) (hi:d9 B N L s st') (hQ:Q .normal st') (he:Ol (GX P) T ops N L (x.on frz s) (ZW ops) st=some (cs,s):=by kernel_rfl):jE rd P B N L (.region id ops true) Q st:=
 Ff hT hm s _ _ he hc hi hQ
theorem sd (hT:su P T) (hm:P.follows .mixedOrders=true) (s:St) (cs:List Prop) (x:RI) (frz:List Nat) (hc:All cs) (hQ:jE rd P B N L y Q s) (he:Ol (GX P) T ops N L (x.on frz s) (ZW ops) st=some (cs,s):=by kernel_rfl):jE rd P B N L (.seq (.region id ops true) y) Q st:=
 uU (Ff hT hm s _ _ he hc .refl hQ)
theorem sj (hT:su P T) (hm:P.follows .mixedOrders=true) (s:St) (cs:List Prop) (x:RI) (frz:List Nat) (hc:All cs) (hi:d9 B N L s st') (hQ:jE rd P B N L y Q st') (he:Ol (GX P) T ops N L (x.on frz s) (ZW ops) st=some (cs,s):=by kernel_rfl):jE rd P B N L (.seq (.region id ops true) y) Q st:=
 uU (Ff hT hm s _ _ he hc hi hQ)
theorem fi (s:St) (cs:List Prop) (frz:List Nat) (hc:All cs) (he:finish L (aaX frz s) (sJ s.slots) [] (Ak st)=some (cs,s):=by kernel_rfl):d9 B N L st s:=d9.fin _ _ he hc
theorem fz (s:St) (frz:List Nat) (he:finish L (aaX frz s) (sJ s.slots) [] (Ak st)=some ([],s):=by kernel_rfl):d9 B N L st s:=d9.fin _ _ he trivial
def GA {α:Type} (t:Nat) (v:α):List (Nat × α)→List (Nat × α)
 |[]=>[]
 |(k,x)::l=>bif Nat.beq k t then(k,v)::l else(k,x)::GA t v l
theorem KS {α:Type} {t:Nat} {v:α}: ∀{l:List (Nat × α)} {n:Nat} {x:α},get (GA t v l) n=some x→(n=t∧x=v∧(get l t).isSome)∨get l n=some x
 |[],n,x,h=>by simp [GA,get]at h
 |(k,y)::l,n,x,h=>by
  unfold GA at h
  cases e:Nat.beq k t with
  |true=>
   have:=Nat.eq_of_beq_eq_true e
   subst this
   simp only [e,cond_true,aJ]at h
   split at h
   ·rename_i hk;cases h;left;exact⟨hk.symm,rfl,by simp [aJ]⟩
   ·rename_i hk;right;rw [aJ,if_neg hk];exact h
  |false=>
   simp only [e,cond_false,aJ]at h
   have hkt:k≠t:=fun q=>by subst q;simp at e
   split at h
   ·rename_i hk;right;rw [aJ,if_pos hk];exact h
   ·rename_i hk
    rcases KS h with⟨h1,h2,h3⟩|h1
    ·left;exact⟨h1,h2,by rw [aJ,if_neg hkt];exact h3⟩
    ·right;rw [aJ,if_neg hk];exact h1
theorem NS {b:Nat} {x y:Option Ob} (h:Ny x y): ∀{l:List (Nat × Option Ob)},get l b=some x→sG l (GA b y l)
 |[],e=>by cases e
 |(k,z)::l,e=>by
  unfold GA
  rw [aJ]at e
  by_cases hk:k=b
  ·subst hk
   rw [if_pos rfl]at e;cases e
   simp only [Nat.beq_refl,cond_true]
   exact⟨rfl,h,sG.refl l⟩
  ·rw [if_neg hk]at e
   have:Nat.beq k b=false:=uZ hk
   simp only [this,cond_false]
   exact⟨rfl,Ny.refl z,NS h e⟩
theorem us (t:Nat) (y:TV) {x:TV} (he:get st.slots t=some x) (h:zu x y):d9 B N L st ⟨GA t y st.slots,st.heap⟩:=by
 intro a w hc
 obtain⟨⟨ρ,F,hfr,hhi,hs,dn⟩,hid,sz⟩:=hc
 refine⟨⟨ρ,F,hfr,hhi,fun t' tv ht=> ?_,dn⟩,hid,sz⟩
 rcases KS ht with⟨rfl,rfl,_⟩|h1
 ·obtain⟨v,hv,hr⟩:=hs _ _ he
  exact⟨v,hv,h _ _ _ _ hr⟩
 ·exact hs _ _ h1
theorem uh (b:Nat) (y:Option Ob) {x:Option Ob} (he:get st.heap b=some x) (h:Ny x y):d9 B N L st ⟨st.slots,GA b y st.heap⟩:=by
 intro a w hc
 obtain⟨⟨ρ,F,hfr,hhi,hs,dn⟩,hid,sz⟩:=hc
 exact⟨⟨ρ,F,hfr,hhi.le (NS h he),hs,dn⟩,hid,sz⟩
theorem ct {c:Operand} {x:Code} {b:Bool} (hb:b=true) (h:jE rd P B N L x Q st) (he:BZ st c=some (.v (.one (.d (.bool b)))):=by kernel_rfl):jE rd P B N L (.cond c x y) Q st:=
 yU b he (fun _=>h) fun hn=>absurd (hb.symm.trans hn) Bool.noConfusion
theorem cf {c:Operand} {x:Code} {b:Bool} (hb:b=false) (h:jE rd P B N L y Q st) (he:BZ st c=some (.v (.one (.d (.bool b)))):=by kernel_rfl):jE rd P B N L (.cond c x y) Q st:=
 yU b he (fun hn=>absurd (hb.symm.trans hn) Bool.noConfusion) fun _=>h
theorem ck {c:Operand} {x:Code} (h:jE rd P B N L x Q st) (he:BZ st c=some (.v (.one (.d (.bool true)))):=by kernel_rfl):jE rd P B N L (.cond c x y) Q st:=
 yU true he (fun _=>h) fun hn=>Bool.noConfusion hn
theorem cn {c:Operand} {x:Code} (h:jE rd P B N L y Q st) (he:BZ st c=some (.v (.one (.d (.bool false)))):=by kernel_rfl):jE rd P B N L (.cond c x y) Q st:=
 yU false he (fun hn=>Bool.noConfusion hn) fun _=>h
theorem rh {rs:List ResultVar} {res:TV} {hout:List (Nat × Option Ob)} (l:List SV) (h3:zu (O5 l) res) (h4:sG st.heap hout) (h1:Np T st rs=some ([],l):=by kernel_rfl):Kw T rs res hout .ret st:=⟨.inr rfl,⟨[],l,h1,trivial,h3⟩,h4⟩
theorem oi {α:Type} {a b:α} (h:some a=some b):a=b:=Option.some.inj h
theorem rk {f:FuncId} {args:List SV} {hin hout:List (Nat × Option Ob)} {res:TV} (l:List (Nat × Nat)) (h:Fn P f args hin res hout):Fn P f (args.map (SV.ren (swp l))) (xM (swp l) hin) (res.ren (swp l)) (xM (swp l) hout):=
 Fn.VH l h rfl rfl rfl rfl
def cA {f:FuncId} {args:List SV} {hin hout:List (Nat × Option Ob)} {res:TV} (_:Fn P f args hin res hout) (ids:List Nat):uH:= .call ids res hout
end
theorem tR {l:List (Nat × TV)} {t:Nat} {x:TV} (h:get l t=some x:=by rfl): ∃y,get l t=some y∧zu y x:=⟨x,h,zu.refl x⟩
theorem cW {b:Nat} {nn:Bool} {n m:Nat} (h:n=m:=by simp only [List.length_set,List.length_append,List.length_cons,List.length_nil,List.length_replicate,List.length_drop]):gV (.own b nn n) (.own b nn m):=gV.of (congrArg (CV.own _ _) h)
theorem oW {E esz n m:Nat} {f:Nat→Nat→DV} (h:n=m:=by simp only [List.length_set,List.length_append,List.length_cons,List.length_nil,List.length_replicate,List.length_drop]):Ny (some (.arr E esz n f)) (some (.arr E esz m f)):=Yh h
def aQ:= @uU
def aP:= @Jc
def aR:= @R8
def aX:= @Pm
def aI:= @xk
def aB:= @JO
def aL:= @KJ
def aO:= @Px
def bE:= @Ud
def bI:= @Xd
theorem lN {σ β X:Type} {b:Nat} {av:List Nat} {S:σ→St} {Sb:β→St} {Qo:X→Exit→St→Prop} {s:σ} {st:St} (h:st=S s:=by kernel_rfl):LQ b av S Sb Qo (.next s) .normal st:=Y2 h
theorem lB {σ β X:Type} {b:Nat} {av:List Nat} {S:σ→St} {Sb:β→St} {Qo:X→Exit→St→Prop} {z:β} {st:St} (h:st=Sb z:=by kernel_rfl):LQ b av S Sb Qo (.done (.brk z)) (.exit b) st:=Zy h
theorem rK {P:Program} {f:FuncId} {args args':List SV} {hin hin' hout hout':List (Nat × Option Ob)} {res res':TV} (l:List (Nat × Nat)) (h:Fn P f args hin res hout)
 (e1:args.map (SV.ren (swp l))=args':=by kernel_rfl) (e2:xM (swp l) hin=hin':=by kernel_rfl) (e3:res.ren (swp l)=res':=by kernel_rfl) (e4:xM (swp l) hout=hout':=by kernel_rfl):Fn P f args' hin' res' hout':=Fn.VH l h e1 e2 e3 e4
theorem rl {T:List (Nat × TI)} {rs:List ResultVar} {res:TV} {hout:List (Nat × Option Ob)} {st:St} (l:List SV) (h1:Np T st rs=some ([],l):=by kernel_rfl) (h2:O5 l=res:=by kernel_rfl) (h3:st.heap=hout:=by kernel_rfl):Kw T rs res hout .ret st:=
 ⟨.inr rfl,⟨[],l,h1,trivial,h2 ▸ zu.refl _⟩,h3 ▸ sG.refl _⟩
theorem hNl: ∀(n:Nat) {l l':List (Nat × Option Ob)},sG (l.drop n) (l'.drop n)→l.take n=l'.take n→sG l l'
 |0,_,_,h,_=>h
 |n+1,[],[],_,_=>trivial
 |n+1,[],_::_,_,e=>by cases e
 |n+1,_::_,[],_,e=>by cases e
 |n+1,(a,x)::l,(b,y)::l',h,e=>by
  simp only [List.take_succ_cons,List.cons.injEq,Prod.mk.injEq]at e
  obtain⟨⟨rfl,rfl⟩,e⟩:=e
  exact⟨rfl,Ny.refl _,hNl n h e⟩
theorem hN (n:Nat) {l l':List (Nat × Option Ob)} (h:sG (l.drop n) (l'.drop n)) (e:l.take n=l'.take n:=by kernel_rfl):sG l l':=hNl n h e
def fN:= @NH
def tL:= @toNat_lt
end Sg

namespace Sg
open Go Go.ChangeShapes Go.WideShapes Go.RowKit Go.Deep
def Kg (w:World) (k:Nat):Prop:=k<w.heap.size
theorem XZ {w:World} {k off:Nat} {u:Value} (h:w.cell? ⟨k,off,none⟩=some u):k<w.heap.size:=by
 unfold World.cell? at h
 cases e:w.heap[k]? with
 |none=>simp [e]at h
 |some o=>exact(Array.getElem?_eq_some_iff.mp e).1
theorem cell_spot {w:World} {a:Addr} {u:Value} (h:w.cell? a=some u):a.spot=none:=by
 unfold World.cell? at h
 cases e:a.spot with
 |none=>rfl
 |some s=>
  split at h
  ·simp [e]at h
  ·cases h
structure Rd (P:Program) (t:TypeId) (n:Nat) {α:Type} (c:α→Nat→DV) (S:α→Prop):Prop where
 size:P.cellsOf t=n
 rd: ∀{H:Type} {enc:TypeId × Value→H} {w:World} {fuel:Nat} {cs:List Value} {x:DataW H × List MemPlace},DataW.trod enc P w 0 (fun _=>true) true fuel t cs=some x→
  ∃a:α,S a∧cs.length=n∧ ∀j,j<n→ ∃u,cs[j]? =some u∧dG (Kg w) w (c a j) u
section
variable {P:Program} {t e:TypeId}
theorem Rd.int (ht:P.underlying t=some (.int .i64)) (hs:P.cellsOf t=1):Rd P t 1 (aG .i64) (fun n=> -9223372036854775808≤n∧n≤9223372036854775807):=by
 refine⟨hs,fun h=> ?_⟩
 obtain⟨n,rfl,_,hw⟩:=DataW.trod_int ht h
 refine⟨n,by simpa [Lit.wf,IntKind.min,IntKind.max,IntKind.signed,IntKind.bits]using hw,rfl,fun j hj=> ?_⟩
 have:j=0:=by omega
 subst this;exact⟨_,rfl,rfl⟩
theorem Rd.bool (ht:P.underlying t=some .bool) (hs:P.cellsOf t=1):Rd P t 1 aj (fun _=>True):=by
 refine⟨hs,fun h=> ?_⟩
 obtain⟨b,rfl,_⟩:=DataW.trod_bool ht h
 refine⟨b,trivial,rfl,fun j hj=> ?_⟩
 have:j=0:=by omega
 subst this;exact⟨_,rfl,rfl⟩
open Classical in
theorem Rd.slice {n:Nat} {α:Type} [Inhabited α] {c:α→Nat→DV} {S:α→Prop} (ht:P.underlying t=some (.slice e)) (hs:P.cellsOf t=1) (hn:0<n) (he:Rd P e n c S):Rd P t 1 (UO n c) (fun l=>l.length≤9223372036854775807∧ ∀x∈l,S x):=by
 refine⟨hs,fun{H enc w fuel cs x} h=> ?_⟩
 rcases open_slice ht h with⟨rfl,_⟩|⟨a,len,cap,m,fu,D,Pl,rfl,hb,hl,hm,hmm,_,hx⟩
 ·refine⟨[],⟨by simp,by simp⟩,rfl,fun j hj=> ?_⟩
  have:j=0:=by omega
  subst this
  exact⟨_,rfl,none,0,rfl,by simp,by simp,by simp,Nat.le_refl _,by simp⟩
 ·simp only [if_true]at hmm
  subst hmm
  have hel: ∀i,i<m→ ∃y:α,S y∧ ∀j,j<n→a.spot=none∧ ∃u,w.cell? ⟨a.block,a.off+(i*n+j),none⟩=some u∧dG (Kg w) w (c y j) u:=by
   intro i hi
   obtain⟨cs',h1,h2⟩:=hx i hi
   rw [he.size]at h1
   obtain⟨y,hy,hlen,hc⟩:=he.rd h2
   obtain⟨_,hcl,hat⟩:=World.cells?_some h1
   obtain⟨cs0,h10,h20⟩:=hx 0 (by omega)
   rw [he.size]at h10
   obtain⟨y0,_,hlen0,hc0⟩:=he.rd h20
   obtain⟨_,_,hat0⟩:=World.cells?_some h10
   obtain⟨u0,hu0,_⟩:=hc0 0 hn
   have hsp:a.spot=none:=by
    have:=(hat0 0 hn).trans hu0
    simp only [Nat.zero_mul]at this
    have h3:=cell_spot this
    simpa [Addr.add]using h3
   refine⟨y,hy,fun j hj=> ⟨hsp, ?_⟩⟩
   obtain⟨u,hu,hr⟩:=hc j hj
   refine⟨u, ?_,hr⟩
   have:=(hat j hj).trans hu
   rw [yI hsp,yI rfl]at this
   rw [←this];simp only [Nat.add_assoc]
  let pick:Nat→α:=fun i=>if h:i<m then Classical.choose (hel i h)else default
  have hpick: ∀i,i<m→S (pick i)∧ ∀j,j<n→a.spot=none∧ ∃u,w.cell? ⟨a.block,a.off+(i*n+j),none⟩=some u∧dG (Kg w) w (c (pick i) j) u:=by
   intro i hi
   show S (dite _ _ _)∧_
   simp only [pick,dif_pos hi]
   exact Classical.choose_spec (hel i hi)
  let l:List α:=(List.range len).map pick
  have hll:l.length=len:=by simp [l]
  have hat: ∀i,i<len→at' l i=pick i:=fun i hi=>by simp [at',l,hi]
  refine⟨l,⟨by rw [hll];exact Nat.le_trans (Nat.le_trans hl hm) (by decide),fun x hx=> ?_⟩,rfl,fun j hj=> ?_⟩
  ·obtain⟨i,hi,rfl⟩:=List.mem_map.mp hx
   exact(hpick i (Nat.lt_of_lt_of_le (List.mem_range.mp hi) hl)).1
  ·have:j=0:=by omega
   subst this
   refine⟨_,rfl,some a,m, ?_,by simp,by simp,by simp,by rw [hll];exact hl,fun ad ha=> ?_⟩
   ·simp [hll]
   ·cases ha
    refine⟨fun h0=> ?_,fun i hi j hj=> ?_⟩
    ·exact((hpick 0 (by omega)).2 0 hn).1
    ·rw [hll]at hi
     obtain⟨_,u,hu,hr⟩:=(hpick i (by omega)).2 j hj
     exact⟨XZ hu,u,hu,by show dG _ _ (c (at' l i) j) u;rw [hat i hi];exact hr⟩
theorem OW {n off:Nat} {α:Type} {c:α→Nat→DV} {w:World} {cs:List Value} {a:α} (h: ∀j,j<n→ ∃u,((cs.drop off).take n)[j]? =some u∧dG (Kg w) w (c a j) u):
  ∀j,j<n→ ∃u,cs[off+j]? =some u∧dG (Kg w) w (c a j) u:=by
 intro j hj
 obtain⟨u,hu,hr⟩:=h j hj
 rw [List.getElem?_take_of_lt hj,List.getElem?_drop]at hu
 exact⟨u,hu,hr⟩
theorem Rd.field {n off:Nat} {α:Type} {c:α→Nat→DV} {S:α→Prop} (he:Rd P e n c S) {H:Type} {enc:TypeId × Value→H} {w:World} {fuel:Nat} {cs:List Value}
  (h: ∃y,DataW.trod enc P w 0 (fun _=>true) true fuel e ((cs.drop off).take (P.cellsOf e))=some y): ∃a:α,S a∧ ∀j,j<n→ ∃u,cs[off+j]? =some u∧dG (Kg w) w (c a j) u:=by
 obtain⟨y,hy⟩:=h
 rw [he.size]at hy
 obtain⟨a,ha,hl,hc⟩:=he.rd hy
 exact⟨a,ha,OW hc⟩
end
section
variable {P:Program} {t:TypeId}
theorem Rd.agg {n:Nat} {α:Type} {c:α→Nat→DV} {S:α→Prop} (hr:Rd P t n c S) {fs:Array Field} (ht:P.underlying t=some (.struct fs)) {W:World} {b0:Nat} {v:Value} (hv:Value.okWide P W .any b0 t v)
  {H:Type} {enc:TypeId × Value→H} {d:DataW H} {ps:List MemPlace} (h:DataW.Trod enc P W 0 (fun _=>true) true t v d ps):
  ∃a:α,S a∧jr (fun _=>none) (Kg W) W (.agg ((List.range n).map fun j=> .d (c a j))) v:=by
 obtain⟨cs,rfl,hsz⟩:=okWide_struct ht hv
 obtain⟨fuel,hf⟩:=h
 obtain⟨a,ha,hl,hc⟩:=hr.rd hf
 refine⟨a,ha,cs.toList,by simp,cu.tK (by rw [List.length_map,List.length_range];exact hl) fun j x hx=> ?_⟩
 have hj:j<n:=by
  have:=(List.getElem?_eq_some_iff.mp hx).1
  simpa using this
 obtain⟨u,hu,hru⟩:=hc j hj
 refine⟨u,hu, ?_⟩
 simp [hj]at hx
 subst hx
 exact hru
theorem Rd.one {α:Type} {c:α→Nat→DV} {S:α→Prop} (hr:Rd P t 1 c S) {W:World} {v:Value} (hv:v.cells.toList=[v])
  {H:Type} {enc:TypeId × Value→H} {d:DataW H} {ps:List MemPlace} (h:DataW.Trod enc P W 0 (fun _=>true) true t v d ps): ∃a:α,S a∧jr (fun _=>none) (Kg W) W (.one (.d (c a 0))) v:=by
 obtain⟨fuel,hf⟩:=h
 rw [hv]at hf
 obtain⟨a,ha,hl,hc⟩:=hr.rd hf
 obtain⟨u,hu,hru⟩:=hc 0 (by omega)
 simp at hu;subst hu
 exact⟨a,ha,hru⟩
theorem Uh {f:FuncId} {args:List SV} {W:World} {vs:List Value} (h:Fn P f args [] (vB true) []) (hr:gm (fun _=>none) (Kg W) W args vs):
  Calls P f vs.toArray W fun e W'=>e= .returned (.bool true)∧Below W.heap.size W W':=by
 refine(h.2 ⟨W,fun _=>none,Kg W,(fun _=>False),0⟩ vs (fun _ h=>h) ⟨fun _ _=>False, ?_⟩ hr).mono fun e W' hh=> ?_
 ·exact⟨fun b ob h=>(by cases h),fun b ob k h=>(by cases h),fun b b' ob ob' k h=>(by cases h),fun _ _=>rfl⟩
 ·obtain⟨v,ρ',F',he,fr,_,hv⟩:=hh
  have hv':v= .bool true:=hv
  subst hv'
  exact⟨he,fr.os,fr.tape,fr.output.1,fr.size,fun k hk=>fr.mem k hk fun q=>q⟩
theorem Co {H:Type} {enc:TypeId × Value→H} (hl:laidOutB P=true) {W W':World} (hb:Below W.heap.size W W') {sp:Nat→Bool}: ∀{ts:List TypeId} {vs:List Value} {ds:List (DataW H)} {ps:List MemPlace},
  DataW.TrodAll enc P W 0 (fun _=>true) true ts vs ds ps→(∀t∈ts,P.readableRec t=true∧t<P.types.size)→(∀q∈ps,q.block<W.heap.size)→(∀q∈ps,sp q.block=true)→DataW.TrodAll enc P W' 0 sp true ts vs ds ps
 |[],vs,ds,ps,h,_,_,_=>by
  obtain⟨rfl,rfl,rfl⟩:=trodAll_nil h;rfl
 |t::ts,vs,ds,ps,h,hr,hlt,hsp=>by
  obtain⟨v,vs',d,ds',p,q,rfl,rfl,rfl,h0,h1⟩:=trodAll_cons h
  have ht:=hr t List.mem_cons_self
  exact trodAll_cons_mk (WideElems.Trod_stays hl ht.1 ht.2 h0 (fun x hx=>hb.same (hlt x (List.mem_append_left _ hx))) (fun x hx=>hsp x (List.mem_append_left _ hx)))
   (Co hl hb h1 (fun t ht=>hr t (List.mem_cons_of_mem _ ht)) (fun x hx=>hlt x (List.mem_append_right _ hx)) (fun x hx=>hsp x (List.mem_append_right _ hx)))
theorem Xb {H:Type} {enc:TypeId × Value→H} {f:Func} {s:ChangeSpec} {W W':World} {args:Array Value} {ds gs:List (DataW H)} {before:List MemPlace} {t4:TypeId} (hs:s.vars=[])
  (hW:DataW.Whole enc P f.params.toList s.vars false W args.toList ds gs before) (h1:(s.fn H (ds++gs)).results=[.lit (.bool true)]) (h2:(s.fn H (ds++gs)).args=ds) (h3:(s.fn H (ds++gs)).vars=[])
  (hr:f.resultTypes= #[t4]) (h4:P.underlying t4=some .bool) (hl:laidOutB P=true) (hread: ∀t∈f.params.toList,P.readableRec t=true∧t<P.types.size) (hb:Below W.heap.size W W'):
  s.post enc P f false true false false W args (.bool true) W':=by
 have hlt:=hW.lt
 have hW':=hW
 obtain⟨p,q,hA,hV,rfl,_,_⟩:=hW
 rw [hs]at hV
 obtain⟨_,rfl⟩:=trodVars_none hV
 rw [List.append_nil]at hW' hlt
 refine⟨ds,gs,p,[],p,[],hW', ?_, ?_, ?_,hb.frame _,fun h=>by cases h⟩
 ·rw [h1,hr]
  exact trodAll_cons_mk (p:=[]) (p':=[]) (shut_bool h4 true) trodAll_mk0
 ·rw [h2]
  exact Co hl hb hA hread (fun x hx=>hlt x hx) (fun x hx=>by simpa using hlt x hx)
 ·rw [hs,h3];rfl
end
end Sg

namespace Sg
open Go Go.ChangeMaps
section
variable {P:Program} {B:Base} {N:Nat} {L:List Nat} {st:St} {rd:Option Nat}
theorem uX {ops:Array Oper} {Q:Exit→Act→World→Prop} {i:Nat} {o:Oper} {a:Act} {w w':World} {v:Value} {K:Act→World→Prop} (ho:ops[i]? =some o) (hg:o.guard=none) (hrun:(execOp a.eval o).run P w= .ok (.value v) w') (hK:K (a.put o.dst v) w'):wpOpIn (FW rd) 0 P ops Q i K a w:=by
 unfold wpOpIn
 rw [ho]
 simp only [Region.wanted,hg,if_true]
 refine wD rd (nV hrun (fun _ h=>by cases h)) ?_
 simp only [Oper.wp,hrun,Oper.upon]
 exact hK
theorem FI {ρ:Nat→Option Pl} {F:Nat→Prop} {w:World} {sl:List (Nat × TV)} {a:Act} {d:Nat} {tv:TV} {v:Value} (hs: ∀t tv,get sl t=some tv→ ∃v,a.tmps[t]? =some v∧cK ρ F w tv v) (hd:d<a.tmps.size) (hr:cK ρ F w tv v):
  ∀t tv',get ((d,tv)::sl) t=some tv'→ ∃v',(a.put (some d) v).tmps[t]? =some v'∧cK ρ F w tv' v':=by
 intro t tv' ht
 rw [aJ]at ht
 split at ht
 ·rename_i e;subst e;cases ht
  exact⟨v,by simp [Act.put,hd],hr⟩
 ·rename_i e
  obtain⟨u,hu,hr'⟩:=hs t tv' ht
  exact⟨u,by simp only [Act.put];rw [Array.getElem?_setIfInBounds_ne e];exact hu,hr'⟩
theorem eval_put_ne {a:Act} {d t:Nat} {v:Value} (h:t≠d):(a.put (some d) v).eval (.tmp t)=a.eval (.tmp t):=by
 simp only [Act.eval,Act.put,Array.getD_eq_getD_getElem?]
 rw [Array.getElem?_setIfInBounds_ne (Ne.symm h)]
theorem Gl {a:Act} {d:Nat} {v:Value} (h:d<a.tmps.size):(a.put (some d) v).eval (.tmp d)=v:=by simp [Act.eval,Act.put,h]
structure It (B:Base) (N:Nat) (L:List Nat) (st:St) (it kit km:Nat) (es:Array MapEntry) (seen:Array Nat) (a:Act) (w:World):Prop where
 ex: ∃ρ F ft,Fr B ρ F w∧wX B ρ F w (bU st.heap) ft∧(∀t tv,get st.slots t=some tv→ ∃v,a.tmps[t]? =some v∧cK ρ F w tv v)∧Marks B F w a.defers∧ρ it=some (.blk kit 0 0)∧
  ∀k,k=kit∨k=km→ ¬ F k∧ ∀b ob,bU st.heap b=some (some ob)→ ¬ ft b k
 ids: ∀b p,B.ρ b=some p→b∈L
 sz:a.tmps.size=N
 bit:B.w.heap.size≤kit
 itx:w.heap[kit]? =some (.mapIter (some km) es.size seen es.size)
 mpx:w.heap[km]? =some (.map es es.size)
theorem lt_of_heap {w:World} {k:Nat} {o:Obj} (h:w.heap[k]? =some o):k<w.heap.size:=(Array.getElem?_eq_some_iff.1 h).1
theorem It.abl {it kit km:Nat} {es:Array MapEntry} {seen:Array Nat} {a:Act} {w:World} (h:It B N L st it kit km es seen a w):Conc B N L st a w:=by
 obtain⟨⟨ρ,F,ft,h1,h2,h3,h4,_⟩,h5,h6,_,_,_⟩:=h
 exact⟨⟨ρ,F,h1,⟨ft,h2⟩,h3,h4⟩,h5,h6⟩
theorem It.base {it kit km:Nat} {es:Array MapEntry} {seen:Array Nat} {a:Act} {w:World} (h:It B N L st it kit km es seen a w):
  ∃B',Conc B' N (it::L) st a w∧ ∀st' a' w',Conc B' N (it::L) st' a' w'→It B N L st' it kit km es seen a' w':=by
 obtain⟨⟨ρ,F,ft,fr,hi,hs,dn,hit,hK⟩,ids,sz,bit,itx,mpx⟩:=h
 have lk: ∀k,k=kit∨k=km→k<w.heap.size:=fun k hk=>hk.elim (fun e=>e ▸ lt_of_heap itx) (fun e=>e ▸ lt_of_heap mpx)
 let B':Base:=⟨w,(fun x=>if x=it then some (.blk kit 0 0)else B.ρ x),F,(fun k=> ∃b ob,bU st.heap b=some (some ob)∧ft b k),B.mb⟩
 have nK: ∀k,k=kit∨k=km→ ¬ B'.Ft k:=fun k hk ⟨b,ob,h1,h2⟩=>(hK k hk).2 b ob h1 h2
 refine⟨B',⟨⟨ρ,F,⟨rfl,rfl, .refl _,Nat.le_refl _,fun _ _ _=>rfl,fun b p e=> ?_,fun k hk=> ⟨(fr.fz k hk).1, .inl hk⟩,fun _ h=>h⟩,⟨ft,hi.obj,fun b ob k hb hf=> ⟨(hi.blk b ob k hb hf).1,(hi.blk b ob k hb hf).2.1, .inl ⟨b,ob,hb,hf⟩⟩,hi.dis,hi.fresh⟩,hs, ?_⟩,fun b p e=> ?_,sz⟩, ?_⟩
 ·by_cases hb:b=it
  ·subst hb
   have e:(if b=b then some (.blk kit 0 0)else B.ρ b)=some p:=e
   rw [if_pos rfl]at e
   rw [hit,e]
  ·have e:(if b=it then some (.blk kit 0 0)else B.ρ b)=some p:=e
   rw [if_neg hb]at e
   exact fr.rho b p e
 ·obtain⟨d0,Ds,d1,d2,d3⟩:=dn
  exact⟨Nat.le_trans d0 fr.size,Ds,d1,d2,d3⟩
 ·by_cases hb:b=it
  ·subst hb;exact List.mem_cons_self
  ·have e:(if b=it then some (.blk kit 0 0)else B.ρ b)=some p:=e
   rw [if_neg hb]at e
   exact List.mem_cons_of_mem _ (ids b p e)
 ·rintro st' a' w' ⟨⟨ρ',F',fr',⟨ft',hi'⟩,hs',dn'⟩,_,sz'⟩
  have inB: ∀k,(B'.Ft k∨w.heap.size≤k)→B.Ft k∨B.w.heap.size≤k:=fun k hk=>by
   rcases hk with⟨b,ob,h1,h2⟩|hk
   ·exact(hi.blk b ob k h1 h2).2.2
   ·exact .inr (Nat.le_trans fr.size hk)
  have hit':ρ' it=some (.blk kit 0 0):=fr'.rho it _ (if_pos rfl)
  have hmem: ∀k,k=kit∨k=km→w'.heap[k]? =w.heap[k]? :=fun k hk=>fr'.mem k (lk k hk) (nK k hk)
  refine⟨⟨ρ',F',ft',⟨fr'.os.trans fr.os,fr'.tape.trans fr.tape,fr'.output.trans fr.output,Nat.le_trans fr.size fr'.size,fun k hk hn=> ?_,fun b p e=> ?_,fun k hk=> ?_,fun k hk=>fr'.bf k (fr.bf k hk)⟩,⟨hi'.obj,fun b ob k hb hf=> ?_,hi'.dis,hi'.fresh⟩,hs', ?_,hit',fun k hk=> ⟨fun hf=> ?_,fun b ob hb hf=> ?_⟩⟩,ids,sz',bit,(hmem _ (.inl rfl)).trans itx,(hmem _ (.inr rfl)).trans mpx⟩
  ·refine(fr'.mem k (Nat.lt_of_lt_of_le hk fr.size) fun⟨b,ob,h1,h2⟩=> ?_).trans (fr.mem k hk hn)
   rcases(hi.blk b ob k h1 h2).2.2 with h|h
   ·exact hn h
   ·omega
  ·apply fr'.rho
   show(if b=it then some (.blk kit 0 0)else B.ρ b)=some p
   by_cases hb:b=it
   ·subst hb
    have:=fr.rho b p e
    rw [if_pos rfl,←hit,this]
   ·rw [if_neg hb];exact e
  ·obtain⟨x1,x2⟩:=fr'.fz k hk
   refine⟨x1, ?_⟩
   rcases x2 with x2|x2
   ·exact(fr.fz k x2).2
   ·exact .inr (inB k x2)
  ·obtain⟨x1,x2,x3⟩:=hi'.blk b ob k hb hf
   exact⟨x1,x2,inB k x3⟩
  ·obtain⟨_,Ds,d1,d2,d3⟩:=dn'
   exact⟨dn.1,Ds,d1,d2,d3⟩
  ·have:=lk k hk
   rcases(fr'.fz k hf).2 with x|x|x
   ·exact(hK k hk).1 x
   ·exact nK k hk x
   ·exact absurd x (by show ¬ w.heap.size≤k;omega)
  ·have:=lk k hk
   rcases(hi'.blk b ob k hb hf).2.2 with x|x
   ·exact nK k hk x
   ·exact absurd x (by show ¬ w.heap.size≤k;omega)
theorem It.put {it kit km:Nat} {es:Array MapEntry} {seen:Array Nat} {a:Act} {w:World} (h:It B N L st it kit km es seen a w) {d:Nat} {tv:TV} {v:Value} (hd:d<N) (hr: ∀ρ F w,cK ρ F w tv v):
  It B N L ⟨(d,tv)::st.slots,st.heap⟩ it kit km es seen (a.put (some d) v) w:=by
 obtain⟨⟨ρ,F,ft,fr,hi,hs,dn,hit,hK⟩,ids,sz,bit,itx,mpx⟩:=h
 exact⟨⟨ρ,F,ft,fr,hi,FI hs (by omega) (hr _ _ _),dn,hit,hK⟩,ids,by simp [Act.put,sz],bit,itx,mpx⟩
theorem It.turn {it kit km:Nat} {es:Array MapEntry} {seen seen':Array Nat} {a:Act} {w w':World} (h:It B N L st it kit km es seen a w) (ho:w'.os=w.os) (ht:w'.tape=w.tape) (hp:OD w' w)
  (hh:w'.heap=w.heap.setIfInBounds kit (.mapIter (some km) es.size seen' es.size)):It B N L st it kit km es seen' a w':=by
 obtain⟨⟨ρ,F,ft,fr,hi,hs,dn,hit,hK⟩,ids,sz,bit,itx,mpx⟩:=h
 have hlt:=lt_of_heap itx
 have hold: ∀k,k≠kit→w'.heap[k]? =w.heap[k]? :=fun k hk=>by rw [hh,Array.getElem?_setIfInBounds_ne (Ne.symm hk)]
 have hsz:w'.heap.size=w.heap.size:=by rw [hh,Array.size_setIfInBounds]
 have hkk:km≠kit:=fun e=>by subst e;rw [itx]at mpx;cases mpx
 have g:Gr ρ F w ρ F w':=⟨fun _ _ h=>h,fun _ h=>h,fun k hk=>hold k fun e=>(hK kit (.inl rfl)).1 (e ▸ hk)⟩
 refine⟨⟨ρ,F,ft,⟨ho.trans fr.os,ht.trans fr.tape,hp.trans fr.output,by rw [hsz];exact fr.size,fun k hk hn=>(hold k (by omega)).trans (fr.mem k hk hn),fr.rho,fun k hk=> ⟨by rw [hsz];exact(fr.fz k hk).1,(fr.fz k hk).2⟩,fr.bf⟩,
  ⟨fun b ob hb=>(hi.obj b ob hb).keep g (fun _ h=>h) fun k hk=>hold k fun e=>(hK kit (.inl rfl)).2 b ob hb (e ▸ hk),fun b ob k hb hf=> ⟨by rw [hsz];exact(hi.blk b ob k hb hf).1,(hi.blk b ob k hb hf).2⟩,hi.dis,hi.fresh⟩,
  fun t tv h=> ?_,dn.gr g,hit,hK⟩,ids,sz,bit,by rw [hh];simp [hlt],by rw [hold km hkk];exact mpx⟩
 obtain⟨v,hv,hr⟩:=hs t tv h
 exact⟨v,hv,hr.gr g⟩
theorem It.eval {it kit km:Nat} {es:Array MapEntry} {seen:Array Nat} {a:Act} {w:World} (h:It B N L st it kit km es seen a w) {t:Nat} (hsl:get st.slots t=some (.v (.one (.ptr it 0)))):a.eval (.tmp t)= .pointer (some ⟨kit,0,none⟩):=by
 obtain⟨⟨ρ,F,ft,fr,hi,hs,dn,hit,hK⟩,_⟩:=h
 obtain⟨v,hv,k,base,cap,h1,h2⟩:=hs _ _ hsl
 rw [hit]at h1;cases h1
 simp [Act.eval,hv,h2]
structure Es (es:Array MapEntry) (n:Nat) (keyS valS:Nat→SV):Prop where
 sz:es.size=n
 at_: ∀i,i<n→ ∃e,es[i]? =some e∧e.born=i∧(∀ρ F w,jr ρ F w (keyS i) e.key)∧ ∀ρ F w,jr ρ F w (valS i) e.val
theorem Es.born {es:Array MapEntry} {n:Nat} {keyS valS:Nat→SV} (h:Es es n keyS valS):es.toList.map (·.born)=List.range n:=by
 apply List.ext_getElem?
 intro i
 rw [List.getElem?_map,Array.getElem?_toList]
 by_cases hi:i<n
 ·obtain⟨e,h1,h2,_⟩:=h.at_ i hi
  rw [h1,List.getElem?_range hi]
  simp [h2]
 ·rw [Array.getElem?_eq_none (by rw [h.sz];omega),List.getElem?_eq_none (by simp;omega)];rfl
theorem Es.mem {es:Array MapEntry} {n:Nat} {keyS valS:Nat→SV} (h:Es es n keyS valS) {e:MapEntry} (he:e∈es.toList):e.born<n∧es[e.born]? =some e:=by
 obtain⟨i,hi,rfl⟩:=List.mem_iff_getElem.1 he
 have hi2:i<n:=by rw [←h.sz];simpa using hi
 obtain⟨e',h1,h2,_⟩:=h.at_ i hi2
 have:es[i]? =some (es.toList[i]):=by rw [←Array.getElem?_toList,List.getElem?_eq_getElem hi]
 rw [this]at h1;cases h1
 rw [h2]
 exact⟨hi2,this⟩
theorem It.next {it kit km n:Nat} {keyS valS:Nat→SV} {es:Array MapEntry} {seen:Array Nat} {a:Act} {w:World} (h:It B N L st it kit km es seen a w) (hes:Es es n keyS valS)
  {o0 o1:Oper} {t2 t3 t4 id:Nat} (e0:o0.op= .next (.tmp t2) false) (g0:o0.guard=none) (d0:o0.dst=some t3) (e1:o1.op= .extract (.tmp t3) 0) (g1:o1.guard=none) (d1:o1.dst=some t4) (h3:t3<N) (h4:t4<N)
  (hsl:get st.slots t2=some (.v (.one (.ptr it 0)))) {Q:Exit→Act→World→Prop}
  (hend:(∀i,i<n→i∈seen)→ ∀a' w',It B N L ⟨(t4,vB false)::(t3, .iP [.one (.d (.bool false))])::st.slots,st.heap⟩ it kit km es seen a' w'→Q .normal a' w')
  (hmore: ∀i,i<n→i ∉ seen→ ∀a' w',It B N L ⟨(t4,vB true)::(t3, .iP [.one (.d (.bool true)),keyS i,valS i])::st.slots,st.heap⟩ it kit km es (seen.push i) a' w'→Q .normal a' w'):
  (Code.region id #[o0,o1] false).wpIn (FW rd) 0 P Q a w:=by
 refine wpIn_region ?_
 show wpOpsIn _ _ _ _ _ [0,1] a w
 have hev:=h.eval hsl
 have hbd: ∀x∈es.toList,x.born<es.size:=fun x hx=>by rw [hes.sz];exact(hes.mem hx).1
 have hput: ∀(w':World) (v:Value),(execOp (a.put (some t3) v).eval o1).run P w'=(Instr.extract v 0>>=fun v=>pure (Next.value v):Sem Next).run P w':=fun w' v=>by
  have:(a.put (some t3) v).eval (.tmp t3)=v:=by simp [Act.eval,Act.put,h.sz,h3]
  simp only [execOp,e1,this]
 rcases run_next_at (P:=P) w o0.type kit km es.size es.size seen es es.size h.itx h.mpx hbd (Nat.le_refl _)with⟨hl,hrun⟩|⟨e,he,w1,hw1,hrun⟩
 ·rw [wpOpsIn_cons]
  refine uX (o:=o0) rfl g0 (v:= .tuple #[.bool false]) (w':=w) ?_ ?_
  ·simp only [execOp,e0,hev,Sem.run_bind,hrun,Result.andThen_ok,Sem.run_pure]
  rw [wpOpsIn_cons]
  refine uX (o:=o1) rfl g1 (v:= .bool false) (w':=w) ?_ ?_
  ·rw [d0,hput];simp [Instr.extract]
  rw [d0,d1]
  refine hend (fun i hi=> ?_) _ _ ((h.put (tv:= .iP [.one (.d (.bool false))]) h3 fun ρ F w=> ⟨[.bool false],rfl,rfl,trivial⟩).put (tv:=vB false) h4 fun ρ F w=>rfl)
  obtain⟨e,q1,q2,_⟩:=hes.at_ i hi
  apply Classical.byContradiction
  intro hns
  have:e∈leftOf es seen:=by
   unfold leftOf
   rw [Array.mem_filter]
   exact⟨Array.mem_of_getElem? q1,by simp [q2,hns]⟩
  have:=Array.size_pos_of_mem this
  omega
 ·have hel:e∈es∧e.born ∉ seen:=by
   have:e∈leftOf es seen:=by simpa using he
   unfold leftOf at this
   rw [Array.mem_filter]at this
   exact⟨this.1,by simpa using this.2⟩
  obtain⟨m1,m2⟩:=hes.mem (by simpa using hel.1)
  obtain⟨e',q1,q2,q3,q4⟩:=hes.at_ _ m1
  rw [m2]at q1;cases q1
  rw [wpOpsIn_cons]
  refine uX (o:=o0) rfl g0 (v:= .tuple #[.bool true,e.key,e.val]) (w':=setBlock w1 kit (.mapIter (some km) es.size (seen.push e.born) es.size)) ?_ ?_
  ·simp only [execOp,e0,hev,Sem.run_bind,hrun,Result.andThen_ok,Sem.run_pure]
  rw [wpOpsIn_cons]
  refine uX (o:=o1) rfl g1 (v:= .bool true) (w':=setBlock w1 kit (.mapIter (some km) es.size (seen.push e.born) es.size)) ?_ ?_
  ·rw [d0,hput];simp [Instr.extract]
  rw [d0,d1]
  have h':It B N L st it kit km es (seen.push e.born) a (setBlock w1 kit (.mapIter (some km) es.size (seen.push e.born) es.size)):=by
   rcases hw1 with rfl|rfl
   ·exact h.turn rfl rfl ⟨rfl,Nat.le_refl _⟩ rfl
   ·exact h.turn rfl rfl ⟨rfl,Nat.le_succ _⟩ rfl
  exact hmore _ m1 hel.2 _ _ ((h'.put (tv:= .iP [.one (.d (.bool true)),keyS e.born,valS e.born]) h3 fun ρ F w=> ⟨[.bool true,e.key,e.val],rfl,rfl,q3 _ _ _,q4 _ _ _,trivial⟩).put (tv:=vB true) h4 fun ρ F w=>rfl)
def RWp (rd:Option Nat) (P:Program) (B:Base) (N:Nat) (L:List Nat) (ops:Array Oper) (l:List Nat) (Qs:St→Prop) (st:St):Prop:=
 ∀Q:Exit→Act→World→Prop,(∀st' a w,Qs st'→Conc B N L st' a w→Q .normal a w)→ ∀a w,Conc B N L st a w→wpOpsIn (FW rd) 0 P ops Q l a w
def aeY (Fc:Cl→List SV→List (Nat × Option Ob)→TV→List (Nat × Option Ob)→Prop) (T:List (Nat × TI)) (ops:Array Oper) (l:List Nat) (N:Nat) (L:List Nat) (x:DZ) (st:St):Option (List Prop × St):=
 match run Fc T ops.toList x.yb x.an x.fr N l (Ak st)with
 |some (cs,r)=>finish L x.fin x.ts cs r
 |none=>none
theorem Yi {T:List (Nat × TI)} (hT:su P T) {ops:Array Oper} {l:List Nat} {Qs:St→Prop} {st':St} (s:St) (x:DZ) {cs:List Prop} (he:aeY (GX P) T ops l N L x st=some (cs,s)) (hc:All cs) (hi:d9 B N L s st') (hQ:Qs st'):RWp rd P B N L ops l Qs st:=by
 intro Q hq a w hconc
 unfold aeY at he
 split at he
 ·rename_i cs0 r hrun
  have hid:=hconc.ids
  exact FC hT hrun (zn he hc) (yZ hconc) fun a' w' hrc=>hq _ _ _ hQ (hi _ _ (xg he hc hrc hid))
 ·cases he
theorem It.entry {it kit km n i:Nat} {keyS valS:Nat→SV} {es:Array MapEntry} {seen:Array Nat} {a:Act} {w:World} (h:It B N L st it kit km es (seen.push i) a w) (hes:Es es n keyS valS) (hi:i<n)
  {ops:Array Oper} {l:List Nat} {o0 o1 o2:Oper} {t2 t5 t6 t7 id:Nat} (hl:List.range ops.size=0::1::2::l) (p0:ops[0]? =some o0) (p1:ops[1]? =some o1) (p2:ops[2]? =some o2)
  (e0:o0.op= .entry (.tmp t2)) (g0:o0.guard=none) (d0:o0.dst=some t5) (e1:o1.op= .extract (.tmp t5) 0) (g1:o1.guard=none) (d1:o1.dst=some t6) (e2:o2.op= .extract (.tmp t5) 1) (g2:o2.guard=none) (d2:o2.dst=some t7)
  (h5:t5<N) (h6:t6<N) (h7:t7<N) (n56:t5≠t6)
  (hsl:get st.slots t2=some (.v (.one (.ptr it 0)))) {Q:Exit→Act→World→Prop}
  (hQ: ∀a' w',It B N L ⟨(t7, .v (valS i))::(t6, .v (keyS i))::(t5, .iP [keyS i,valS i])::st.slots,st.heap⟩ it kit km es (seen.push i) a' w'→wpOpsIn (FW rd) 0 P ops Q l a' w'):
  (Code.region id ops false).wpIn (FW rd) 0 P Q a w:=by
 refine wpIn_region ?_
 rw [hl]
 have hev:=h.eval hsl
 obtain⟨e,q1,q2,q3,q4⟩:=hes.at_ i hi
 have hmem:e∈es.toList:=by rw [←Array.getElem?_toList]at q1;exact List.mem_of_getElem? q1
 have hrun:=run_entry_at (P:=P) w kit km es.size seen es es.size e (by rw [q2];exact h.itx) h.mpx hmem (by rw [hes.born];exact List.nodup_range)
 have sz:=h.sz
 rw [wpOpsIn_cons]
 refine uX (o:=o0) p0 g0 (v:= .tuple #[e.key,e.val]) (w':=w) ?_ ?_
 ·simp only [execOp,e0,hev,Sem.run_bind,hrun,Result.andThen_ok,Sem.run_pure]
 rw [d0,wpOpsIn_cons]
 refine uX (o:=o1) p1 g1 (v:=e.key) (w':=w) ?_ ?_
 ·have:(a.put (some t5) (.tuple #[e.key,e.val])).eval (.tmp t5)= .tuple #[e.key,e.val]:=by simp [Act.eval,Act.put,sz,h5]
  simp [execOp,e1,this,Instr.extract]
 rw [d1,wpOpsIn_cons]
 refine uX (o:=o2) p2 g2 (v:=e.val) (w':=w) ?_ ?_
 ·have:((a.put (some t5) (.tuple #[e.key,e.val])).put (some t6) e.key).eval (.tmp t5)= .tuple #[e.key,e.val]:=by
   rw [eval_put_ne n56,Gl (by omega)]
  simp [execOp,e2,this,Instr.extract]
 rw [d2]
 exact hQ _ _ (((h.put (tv:= .iP [keyS i,valS i]) h5 fun ρ F w=> ⟨[e.key,e.val],rfl,q3 _ _ _,q4 _ _ _,trivial⟩).put (tv:= .v (keyS i)) h6 fun ρ F w=>q3 _ _ _).put (tv:= .v (valS i)) h7 fun ρ F w=>q4 _ _ _)
def F3 (s:SV):Prop:= ∀ρ F w ρ' F' w' v,jr ρ F w s v→jr ρ' F' w' s v
theorem It.start {a:Act} {w:World} (hc:Conc B N L st a w) {tm t1 t2 b it id:Nat} {T K V:TypeId} {m:Pf} {keyS valS:Nat→SV} {o0 o1:Oper}
  (e0:o0.op= .move (.tmp tm)) (g0:o0.guard=none) (d0:o0.dst=some t1) (e1:o1.op= .range T (.tmp t1)) (g1:o1.guard=none) (d1:o1.dst=some t2) (h1:t1<N) (h2:t2<N)
  (hT:P.underlying T=some (.map K V)) (hsl:get st.slots tm=some (.v (.one (.mp b)))) (hb:get st.heap b=some (some (.map m))) (hit:get st.heap it=none)
  (hk: ∀i,i<m.len→mV m.kagg (iD (fun j=> .d (m.key i j)) 0 m.ksz)=some (keyS i)∧mV m.vagg (iD (m.val i) 0 m.vsz)=some (valS i)) (hp: ∀i,i<m.len→F3 (keyS i)∧F3 (valS i)) {Q:Exit→Act→World→Prop}
  (hQ: ∀es kit km a' w',Es es m.len keyS valS→It B N L ⟨(t2,vP it 0)::(t1, .v (.one (.mp b)))::st.slots,(it,none)::(b,none)::st.heap⟩ it kit km es #[] a' w'→Q .normal a' w'):
  (Code.region id #[o0,o1] false).wpIn (FW rd) 0 P Q a w:=by
 obtain⟨⟨ρ,F,fr,⟨ft,hi⟩,hs,dn⟩,ids,sz⟩:=hc
 obtain⟨v,hv,hvr⟩:=hs _ _ hsl
 have hvr':=hvr
 obtain⟨km,base,cap,hρ,rfl⟩:=hvr
 obtain⟨km',base',cap',es,r1,r2,r3,r4,r5,r6⟩:=hi.obj b _ hb
 rw [hρ]at r1;cases r1
 have hes:Es es m.len keyS valS:=⟨r4,fun i hi'=>by
  obtain⟨e,q1,q2,⟨s1,q3,q4⟩,⟨s2,q5,q6⟩⟩:=r6 i hi'
  rw [(hk i hi').1]at q3;cases q3
  rw [(hk i hi').2]at q5;cases q5
  exact⟨e,q1,q2,fun ρ' F' w'=>(hp i hi').1 _ _ _ _ _ _ _ q4,fun ρ' F' w'=>(hp i hi').2 _ _ _ _ _ _ _ q6⟩⟩
 have hitb:it≠b:=fun e=>by subst e;rw [hit]at hb;cases hb
 have hρit:ρ it=none:=hi.fresh it hit
 have hmb:=hi.blk b _ km hb r2
 refine wpIn_region ?_
 show wpOpsIn _ _ _ _ _ [0,1] a w
 rw [wpOpsIn_cons]
 have hevm:a.eval (.tmp tm)= .map (some km):=by simp [Act.eval,hv]
 refine uX (o:=o0) rfl g0 (v:= .map (some km)) (w':=w) (by simp [execOp,e0,hevm]) ?_
 rw [d0,wpOpsIn_cons]
 let w1:World:=w.alloc (.mapIter (some km) es.size #[] es.size)
 have hev1:(a.put (some t1) (.map (some km))).eval (.tmp t1)= .map (some km):=Gl (by omega)
 refine uX (o:=o1) rfl g1 (v:= .pointer (some ⟨w.heap.size,0,none⟩)) (w':=w1) ?_ ?_
 ·simp only [execOp,e1,hev1,Sem.run_bind,run_range_map w T K V km es es.size hT r3,Result.andThen_ok,Sem.run_pure];rfl
 rw [d1]
 have hsz1:w1.heap.size=w.heap.size+1:=by show(w.heap.push _).size=_;simp
 have hold: ∀k,k<w.heap.size→w1.heap[k]? =w.heap[k]? :=fun k hk=>heap_alloc_old w _ hk
 have hupd: ∀x p,ρ x=some p→dS ρ it (.blk w.heap.size 0 0) x=some p:=bP hρit
 have g:Gr ρ F w (dS ρ it (.blk w.heap.size 0 0)) F w1:=⟨hupd,fun _ h=>h,fun k hk=>hold k (fr.fz k hk).1⟩
 have hget: ∀x ob,bU ((it,none)::(b,none)::st.heap) x=some (some ob)→get st.heap x=some (some ob)∧x≠b∧x≠it:=by
  intro x ob hx
  unfold bU at hx
  rw [aJ,aJ]at hx
  split at hx
  ·cases hx
  ·rename_i n1
   split at hx
   ·cases hx
   ·rename_i n2;exact⟨hx,Ne.symm n2,Ne.symm n1⟩
 refine hQ es w.heap.size km _ _ hes ⟨⟨dS ρ it (.blk w.heap.size 0 0),F,ft,⟨fr.os,fr.tape,fr.output,by rw [hsz1];exact Nat.le_succ_of_le fr.size,fun k hk hn=>(hold k (Nat.lt_of_lt_of_le hk fr.size)).trans (fr.mem k hk hn),fun x p e=>hupd x p (fr.rho x p e),fun k hk=> ⟨by rw [hsz1];exact Nat.lt_succ_of_lt (fr.fz k hk).1,(fr.fz k hk).2⟩,fr.bf⟩,
  ⟨fun x ob hx=> ?_,fun x ob k hx hf=> ?_,fun x x' ob ob' k hx hx'=>hi.dis x x' ob ob' k (hget x ob hx).1 (hget x' ob' hx').1,fun x hx=> ?_⟩, ?_,dn.gr g,aH _ _,fun k hk=> ?_⟩,ids,by simp [Act.put,sz],fr.size,heap_alloc_new w _,by rw [hold km hmb.1];exact r3⟩
 ·exact(hi.obj x ob (hget x ob hx).1).keep g (fun _ h=>h) fun k hk=>hold k (hi.blk x ob k (hget x ob hx).1 hk).1
 ·obtain⟨y1,y2,y3⟩:=hi.blk x ob k (hget x ob hx).1 hf
  exact⟨by rw [hsz1];omega,y2,y3⟩
 ·unfold bU at hx
  rw [aJ,aJ]at hx
  split at hx
  ·cases hx
  ·rename_i n1
   split at hx
   ·cases hx
   ·unfold dS;rw [if_neg (Ne.symm n1)];exact hi.fresh x hx
 ·refine FI (FI (fun t tv ht=> ?_) (by omega) ?_) (by simp [Act.put];omega) ?_
  ·obtain⟨u,hu,hr⟩:=hs t tv ht
   exact⟨u,hu,hr.gr g⟩
  ·exact cK.gr g (s:= .v (.one (.mp b))) hvr'
  ·exact⟨w.heap.size,0,0,aH _ _,rfl⟩
 ·rcases hk with rfl|rfl
  ·exact⟨fun hf=>by have:=(fr.fz _ hf).1;omega,fun x ob hx hf=>by have:=(hi.blk x ob _ (hget x ob hx).1 hf).1;omega⟩
  ·exact⟨hmb.2.1,fun x ob hx hf=>(hget x ob hx).2.1 (hi.dis x b ob _ k (hget x ob hx).1 hb hf r2)⟩
def y7 {σ:Type} [DecidableEq σ]:List (Option σ)→Option σ
 |[]=>none
 |[a]=>a
 |a::b::l=>if a=y7 (b::l)then a else none
theorem Gc {σ:Type} [DecidableEq σ] {r:σ}: ∀{l:List (Option σ)},y7 l=some r→ ∀x∈l,x=some r
 |[],h,_,hx=>by cases hx
 |[a],h,x,hx=>by rw [List.mem_singleton]at hx;subst hx;exact h
 |a::b::l,h,x,hx=>by
  unfold y7 at h
  split at h
  ·rename_i e
   rcases List.mem_cons.1 hx with rfl|hx
   ·exact h
   ·exact Gc (e ▸ h) x hx
  ·cases h
def xH {σ:Type} [DecidableEq σ] (body:σ→Nat→Option σ):Nat→List Nat→σ→Option σ
 |0,_,s=>some s
 |k+1,left,s=>y7 (left.map fun x=>(body s x).bind (xH body k (left.erase x)))
theorem Rt {σ:Type} [DecidableEq σ] {body:σ→Nat→Option σ} {k x:Nat} {left:List Nat} {s r:σ} (h:xH body (k+1) left s=some r) (hx:x∈left): ∃s',body s x=some s'∧xH body k (left.erase x) s'=some r:=by
 have:=Gc (show y7 (left.map fun x=>(body s x).bind (xH body k (left.erase x)))=some r from h) _ (List.mem_map.2 ⟨x,hx,rfl⟩)
 cases hb:body s x with
 |none=>rw [hb]at this;cases this
 |some s'=>rw [hb]at this;exact⟨s',rfl,this⟩
def aaC (N t1 t2 t3 t4 t5 t6 t7:Nat):Bool:=Nat.blt t1 N && Nat.blt t2 N && Nat.blt t3 N && Nat.blt t4 N && Nat.blt t5 N && Nat.blt t6 N && Nat.blt t7 N && !(Nat.beq t5 t6) && !(Nat.beq t3 t2) && !(Nat.beq t4 t2)
theorem Uw {N t1 t2 t3 t4 t5 t6 t7:Nat} (h:aaC N t1 t2 t3 t4 t5 t6 t7=true):(t1<N∧t2<N∧t3<N∧t4<N∧t5<N∧t6<N∧t7<N)∧t5≠t6∧t3≠t2∧t4≠t2:=by
 unfold aaC at h
 have lt: ∀a b,Nat.blt a b=true→a<b:=fun a b h=>Nat.le_of_ble_eq_true h
 have ne: ∀a b,(!(Nat.beq a b))=true→a≠b:=fun a b h e=>by subst e;simp at h
 simp only [Bool.and_eq_true]at h
 obtain⟨⟨⟨⟨⟨⟨⟨⟨⟨a1,a2⟩,a3⟩,a4⟩,a5⟩,a6⟩,a7⟩,a8⟩,a9⟩,a10⟩:=h
 exact⟨⟨lt _ _ a1,lt _ _ a2,lt _ _ a3,lt _ _ a4,lt _ _ a5,lt _ _ a6,lt _ _ a7⟩,ne _ _ a8,ne _ _ a9,ne _ _ a10⟩
theorem ja {σ:Type} [DecidableEq σ] (S:σ→St) {body:σ→Nat→Option σ} {s0 r:σ} (m:Pf) (b it:Nat) (keyS valS:Nat→SV) (h:xH body m.len (List.range m.len) s0=some r)
  {tm t1 t2 t3 t4 t5 t6 t7 X Y id1 id2 id3:Nat} {T K V:TypeId} {o0 o1 o2 o3 p0 p1 p2:Oper} {ops:Array Oper} (l:List Nat) {BODY:Code} {Q:Exit→St→Prop}
  (hsl:get st.slots tm=some (.v (.one (.mp b)))) (hb:get st.heap b=some (some (.map m))) (hit:get st.heap it=none)
  (hk: ∀i,i<m.len→mV m.kagg (iD (fun j=> .d (m.key i j)) 0 m.ksz)=some (keyS i)∧mV m.vagg (iD (m.val i) 0 m.vsz)=some (valS i)) (hp: ∀i,i<m.len→F3 (keyS i)∧F3 (valS i))
  (himp: ∀B,d9 B N (it::L) ⟨(t2,vP it 0)::(t1, .v (.one (.mp b)))::st.slots,(it,none)::(b,none)::st.heap⟩ (S s0))
  (hS: ∀s,get (S s).slots t2=some (vP it 0))
  (hbody: ∀B s i s',i<m.len→body s i=some s'→RWp rd P B N (it::L) ops l (fun st1=>jE rd P B N (it::L) BODY (fun e st'=>(e= .normal∨e= .exit Y)∧st'=S s') st1)
   ⟨(t7, .v (valS i))::(t6, .v (keyS i))::(t5, .iP [keyS i,valS i])::(t4,vB true)::(t3, .iP [.one (.d (.bool true)),keyS i,valS i])::(S s).slots,(S s).heap⟩)
  (hend:Q .normal ⟨(t4,vB false)::(t3, .iP [.one (.d (.bool false))])::(S r).slots,(S r).heap⟩)
  (hT:P.underlying T=some (.map K V):=by kernel_rfl)
  (hops:(o0.op= .move (.tmp tm)∧o0.guard=none∧o0.dst=some t1)∧(o1.op= .range T (.tmp t1)∧o1.guard=none∧o1.dst=some t2)∧(o2.op= .next (.tmp t2) false∧o2.guard=none∧o2.dst=some t3)∧(o3.op= .extract (.tmp t3) 0∧o3.guard=none∧o3.dst=some t4)∧
   (p0.op= .entry (.tmp t2)∧p0.guard=none∧p0.dst=some t5)∧(p1.op= .extract (.tmp t5) 0∧p1.guard=none∧p1.dst=some t6)∧(p2.op= .extract (.tmp t5) 1∧p2.guard=none∧p2.dst=some t7)∧(List.range ops.size=0::1::2::l∧ops[0]? =some p0∧ops[1]? =some p1∧ops[2]? =some p2):=by
    exact⟨⟨rfl,rfl,rfl⟩,⟨rfl,rfl,rfl⟩,⟨rfl,rfl,rfl⟩,⟨rfl,rfl,rfl⟩,⟨rfl,rfl,rfl⟩,⟨rfl,rfl,rfl⟩,⟨rfl,rfl,rfl⟩,⟨rfl,rfl,rfl,rfl⟩⟩)
  (hlt:(aaC N t1 t2 t3 t4 t5 t6 t7)=true:=by kernel_rfl):
  jE rd P B N L (.seq (.region id1 #[o0,o1] false) (.block X (.loop (.seq (.region id2 #[o2,o3] false) (.seq (.cond (.tmp t4) .skip (.exit X)) (.block Y (.seq (.region id3 ops false) BODY))))))) Q st:=by
 intro a w hc
 obtain⟨⟨a1,a2,a3⟩,⟨b1,b2,b3⟩,⟨c1,c2,c3⟩,⟨d1,d2,d3⟩,⟨f1,f2,f3⟩,⟨g1,g2,g3⟩,⟨i1,i2,i3⟩,hl,q0,q1,q2⟩:=hops
 obtain⟨⟨l1,l2,l3,l4,l5,l6,l7⟩,n56,n32,n42⟩:=Uw hlt
 refine wpIn_seq (It.start hc a1 a2 a3 b1 b2 b3 l1 l2 hT hsl hb hit hk hp ?_)
 intro es kit km a' w' hes hI
 obtain⟨B',hc',hback⟩:=hI.base
 have hI0:=hback _ _ _ (himp B' _ _ hc')
 refine wpIn_block ?_
 refine wpIn_loop_ghost (fun k a w=> ∃(seen:Array Nat) (left:List Nat) (s:σ),left.length=k∧left.Nodup∧(∀x,x∈left↔x<m.len∧x ∉ seen)∧xH body k left s=some r∧It B N L (S s) it kit km es seen a w) m.len
  ⟨#[],List.range m.len,s0,by simp,List.nodup_range,fun x=>by simp,h,hI0⟩ ?_
 rintro k a2 w2 ⟨seen,left,s,hlen,hnd,hmem,hgo,hI⟩
 refine wpIn_seq (hI.next hes c1 c2 c3 d1 d2 d3 l3 l4 (hS s) (fun hall a3 w3 hI3=> ?_) fun i hi hns a3 w3 hI3=> ?_)
 ·have hleft:left=[]:=by
   rw [List.eq_nil_iff_forall_not_mem]
   intro x hx
   have:=(hmem x).1 hx
   exact this.2 (hall x this.1)
  subst hleft
  have hk0:k=0:=by simpa using hlen.symm
  subst hk0
  have hsr:s=r:=Option.some.inj hgo
  subst hsr
  refine wpIn_seq (wpIn_cond_split (t:=false) ?_ (fun e=>by cases e) fun _=>wpIn_exit ?_)
  ·obtain⟨ρ,F,_,_,hs,_⟩:=hI3.abl.ex
   obtain⟨v,hv,hr⟩:=hs t4 (vB false) (by rw [aJ,if_pos rfl])
   have:v= .bool false:=hr
   subst this
   simp [Act.eval,hv]
  ·simp only [Exit.then,Exit.inBlock,if_true]
   exact⟨_,hend,hI3.abl⟩
 ·have hil:i∈left:=(hmem i).2 ⟨hi,hns⟩
  cases k with
  |zero=>rw [List.length_eq_zero_iff]at hlen;subst hlen;cases hil
  |succ k=>
   obtain⟨s',hbs,hgo'⟩:=Rt hgo hil
   refine wpIn_seq (wpIn_cond_split (t:=true) ?_ (fun _=>wpIn_skip ?_) fun e=>by cases e)
   ·obtain⟨ρ,F,_,_,hs,_⟩:=hI3.abl.ex
    obtain⟨v,hv,hr⟩:=hs t4 (vB true) (by rw [aJ,if_pos rfl])
    have:v= .bool true:=hr
    subst this
    simp [Act.eval,hv]
   ·refine wpIn_block (wpIn_seq (hI3.entry hes hi hl q0 q1 q2 f1 f2 f3 g1 g2 g3 i1 i2 i3 l5 l6 l7 n56 ?_ fun a4 w4 hI4=> ?_))
    ·rw [aJ,if_neg n42,aJ,if_neg n32];exact hS s
    ·obtain⟨B4,hc4,hback4⟩:=hI4.base
     refine hbody B4 s i s' hi hbs _ (fun st1 a6 w6 hq6 hc6=>wpIn_mono (hq6 a6 w6 hc6) ?_) a4 w4 hc4
     rintro e a5 w5 ⟨st5,⟨he,rfl⟩,hc5⟩
     have hI5:=hback4 _ _ _ hc5
     have hfin: ∃k',k'<k+1∧ ∃(seen:Array Nat) (left:List Nat) (s:σ),left.length=k'∧left.Nodup∧(∀x,x∈left↔x<m.len∧x ∉ seen)∧xH body k' left s=some r∧It B N L (S s) it kit km es seen a5 w5:=by
      refine⟨k,Nat.lt_succ_self k,seen.push i,left.erase i,s', ?_,hnd.erase i,fun x=> ?_,hgo',hI5⟩
      ·rw [List.length_erase_of_mem hil,hlen];rfl
      ·rw [hnd.mem_erase_iff,hmem,Array.mem_push]
       constructor
       ·rintro ⟨q1,q2,q3⟩;exact⟨q2,fun hh=>hh.elim q3 q1⟩
       ·rintro ⟨q1,q2⟩;exact⟨fun e=>q2 (.inr e),q1,fun e=>q2 (.inl e)⟩
     rcases he with rfl|rfl
     ·exact hfin
     ·simp only [Exit.inBlock,if_true];exact hfin
theorem d9.adK {b c l E esz len:Nat} {el:Nat→Nat→DV} (hb:get st.heap b=some (some (.arr E esz len el))) (hc:get st.heap c=some (some (.suf b l esz))) (hl:l≤len) (hz:esz≠0):
  d9 B N L st ⟨st.slots,(c,some (.arr E esz (len - l) fun i j=>el (i+l) j))::(b,none)::st.heap⟩:=by
 rintro a w ⟨⟨ρ,F,fr,⟨ft,hi⟩,hs,dn⟩,hid,sz⟩
 have hne:c≠b:=fun e=>by rw [e,hb]at hc;cases hc
 have hu: ∀x,bU ((c,some (.arr E esz (len - l) fun i j=>el (i+l) j))::(b,none)::st.heap) x=if x=c then some (some (.arr E esz (len - l) fun i j=>el (i+l) j))else if x=b then some none else get st.heap x:=fun x=>by
  unfold bU
  rw [aJ,aJ]
  by_cases e1:c=x
  ·rw [if_pos e1,if_pos e1.symm]
  ·rw [if_neg e1,if_neg (Ne.symm e1)]
   by_cases e2:b=x
   ·rw [if_pos e2,if_pos e2.symm]
   ·rw [if_neg e2,if_neg (Ne.symm e2)]
 refine⟨⟨ρ,F,fr,⟨fun x k=>if x=c then ft b k else x≠b∧ft x k,hi.step (.refl _ _ _) fr (Nat.le_refl _) (fun x=>x=c∨x=b) (fun x ob hx hh=> ?_) (fun x ob hx hh=> ?_) (fun x ob k hx hh hf=> ?_) (fun x x' ob ob' k hx hx' hh hh' _ _=> ?_) (fun k hk=> .inl hk) fun x hx=> ?_⟩,hs,dn⟩,hid,sz⟩
 ·have h1:x≠c:=fun e=>hx (.inl e)
  have h2:x≠b:=fun e=>hx (.inr e)
  rw [hu,if_neg h1,if_neg h2]at hh
  exact⟨hh,fun _ _=>rfl,fun k=>by simp only [if_neg h1];exact⟨fun q=>q.2,fun q=> ⟨h2,q⟩⟩⟩
 ·rw [hu]at hh
  by_cases h1:x=c
  ·subst h1
   rw [if_pos rfl]at hh
   cases hh
   simp only [if_true]
   have hob:=hi.obj b _ hb
   have hsf:=hi.obj x _ hc
   rcases hob with⟨g1,g2⟩|⟨k,base,cap,g1,g2,vs,g3,g4,g5,g6,g7⟩
   ·rcases hsf with⟨_,s2,s3⟩|⟨k,base,cap,s1,_⟩
    ·exact .inl ⟨s2,by omega⟩
    ·rw [g1]at s1;cases s1
   ·rcases hsf with⟨s1,_,_⟩|⟨k',base',cap',s1,s2,s3⟩
    ·rw [g1]at s1;cases s1
    ·rw [g1]at s1;cases s1
     unfold E5 at s3
     rw [if_neg hz]at s3
     by_cases hcap:cap=l
     ·rw [if_pos hcap]at s3
      exact .inr ⟨k,base,cap - l,s3,g2,vs,g3,by rw [show cap - l=0 by omega,Nat.zero_mul];omega,by omega,by omega,fun i hi'=>by omega⟩
     ·rw [if_neg hcap]at s3
      refine .inr ⟨k,base+l*esz,cap - l,s3,g2,vs,g3, ?_,by omega,by omega,fun i hi' j hj=> ?_⟩
      ·rw [Nat.add_assoc,←Nat.add_mul,show l+(cap - l)=cap by omega];exact g4
      ·obtain⟨u,q1,q2⟩:=g7 (i+l) (by omega) j hj
       exact⟨u,by rw [show base+l*esz+(i*esz+j)=base+((i+l)*esz+j) by rw [Nat.add_mul];omega];exact q1,q2⟩
  ·rw [if_neg h1]at hh
   rcases hx with hx|hx
   ·exact absurd hx h1
   ·rw [if_pos hx]at hh;cases hh
 ·left
  rcases hx with hx|hx
  ·subst hx
   simp only [if_true]at hf
   exact⟨b,_, .inr rfl,hb,hf⟩
  ·rw [hu,if_neg (by rw [hx];exact Ne.symm hne),if_pos hx]at hh;cases hh
 ·have one: ∀y o,y=c∨y=b→bU ((c,some (.arr E esz (len - l) fun i j=>el (i+l) j))::(b,none)::st.heap) y=some (some o)→y=c:=fun y o hy ho=>by
   rcases hy with hy|hy
   ·exact hy
   ·rw [hu,if_neg (by rw [hy];exact Ne.symm hne),if_pos hy]at ho;cases ho
  rw [one x ob hx hh,one x' ob' hx' hh']
 ·rw [hu]at hx
  split at hx
  ·cases hx
  ·split at hx
   ·cases hx
   ·exact hi.fresh x hx
theorem d9.abU {α:Type} [Inhabited α] {b c k E esz:Nat} {cf:α→Nat→DV} {l:List α} (hb:get st.heap b=some (some (.arr E esz l.length (au cf l)))) (hc:get st.heap c=some (some (.suf b k esz))) (hl:k≤l.length) (hz:esz≠0):
  d9 B N L st ⟨st.slots,(c,some (.arr E esz (l.length - k) (au cf (l.drop k))))::(b,none)::st.heap⟩:=by
 have h:=d9.adK (B:=B) (N:=N) (L:=L) hb hc hl hz
 have e:(fun i j=>au cf l (i+k) j)=au cf (l.drop k):=by
  funext i j
  show cf (at' l (i+k)) j=cf (at' (l.drop k) i) j
  rw [Ya]
 rw [e]at h
 exact h
end
def SQ (Q:Exit→St→Prop):Exit→St→Prop:=fun e st=>(∀l,e≠ .goto l)∧Q e st
section
variable {P:Program} {B:Base} {N:Nat} {L:List Nat} {st:St} {rd:Option Nat} {Q:Exit→St→Prop}
theorem QB {c:Code} (h:jE rd P B N L c (SQ Q) st):jE rd P B N L (.scope c) Q st:=by
 intro a w hc b k cs hro hbu hr
 obtain⟨e,a1,w1,⟨st',⟨hng,hR⟩,hconc⟩,harr⟩:=h a w hc b (.inScope c::k) cs hro hbu hr
 have fin: ∃e a2 w2,(∃st',Q e st'∧Conc B N L st' a2 w2)∧ArrivesIn (Machine.fenced P (FW rd)) P (lone (b.atR a (.code c:: .inScope c::k)) cs w) b k cs e a2 w2:=by
  cases e with
  |normal=>exact⟨.normal,a1,w1,⟨st',hR,hconc⟩,StepsIn.trans harr (.one (fenced_calm hbu hr rfl) Cr)⟩
  |exit id=>
   have hx:exitTo id (.inScope c::k)=exitTo id k:=by simp [exitTo]
   exact⟨_,a1,w1,⟨st',hR,hconc⟩,fun k' hk=>harr.1 k' (by rw [hx];exact hk),fun hr' hk=>harr.2 hr' (by rw [hx];exact hk)⟩
  |goto l'=>exact absurd rfl (hng l')
  |ret=>exact⟨_,a1,w1,⟨st',hR,hconc⟩,harr⟩
  |panic ch=>exact⟨_,a1,w1,⟨st',hR,hconc⟩,harr⟩
  |outgrown=>exact⟨_,a1,w1,⟨st',hR,hconc⟩,harr⟩
 obtain⟨e,a2,w2,hq,harr⟩:=fin
 exact⟨e,a2,w2,hq, .of_steps (.one (fenced_calm hbu hr rfl) Gp) harr⟩
end
theorem Q6 {α:Type} (n i:Nat):at' (List.replicate n ([]:List α)) i=[]:=by
 unfold at'
 by_cases h:i<n
 ·simp [List.getElem?_replicate,h]
 ·simp [List.getElem?_replicate,h];rfl
theorem Ju {α:Type} (n i e sz a b:Nat) (f g:Nat→Nat→DV):SC (.sl (some false) a b f) (.row e sz (at' (List.replicate n ([]:List α)) i).length g):=⟨by rw [Q6];rfl,_,_,_,rfl⟩
theorem lJ (k:IntKind) (i:Int):F3 (.one (.d (.int k i))):=fun _ _ _ _ _ _ _ h=>h
def LZ:List CV→Bool
 |[]=>true
 | .d (.int _ _)::l=>LZ l
 |_=>false
theorem Wt: ∀{cs:List CV} (_:LZ cs=true) {ρ ρ':Nat→Option Pl} {F F':Nat→Prop} {w w':World} {vs:List Value},cu ρ F w cs vs→cu ρ' F' w' cs vs
 |[],_,_,_,_,_,_,_,[],_=>trivial
 |[],_,_,_,_,_,_,_,_::_,h=>h.elim
 | .d (.int _ _)::l,hp,_,_,_,_,_,_,v::vs,⟨h1,h2⟩=> ⟨h1,Wt (cs:=l) hp h2⟩
 | .d (.int _ _)::l,_,_,_,_,_,_,_,[],h=>h.elim
theorem ML {cs:List CV} (h:LZ cs=true):F3 (.agg cs):=fun _ _ _ _ _ _ _ ⟨vs,e,hr⟩=> ⟨vs,e,Wt h hr⟩
theorem cN {b n m:Nat} (h:n=m:=by first|rfl|simp only [List.length_set,List.length_append,List.length_cons,List.length_nil,List.length_replicate,List.length_drop]):gV (.own b true n) (.own b false m):=by
 subst h
 rintro ρ F w v (h|⟨h,_⟩)
 ·exact .inl h
 ·cases h
structure PP where
 p:Prop
 h:p
structure PI where
 a:Prop
 b:Prop
 h:a→b
inductive Cs where
 |u (j:Nat)
 |k (j:Nat)
 |pf (x:PP)
 |dv (j:Nat) (x:PI)
 |dk (j:Nat) (x:PI)
 |m (js:List Nat) (a:List Prop) (b:Prop) (h:All a→b)
instance (n:Nat):OfNat Cs n:=⟨.u n⟩
inductive Ck where
 |p (x:Prop)
 |b (x:Bool)
 |n (x:Nat)
 |dv (x:DV)
 |tv (x:TV)
 |co (x:List Code)
 |ob (x:Option Ob)
 |st (x:St)
 |hp (x:List (Nat × Option Ob))
abbrev CP:=List (Ck × Ck)
def CP.ok:CP→Prop
 |[]=>True
 |p::l=>p.1=p.2∧CP.ok l
theorem CP.lH: ∀{l m:CP},CP.ok (l++m)↔CP.ok l∧CP.ok m
 |[],m=>by simp [CP.ok]
 |p::l,m=>by simp [CP.ok,CP.lH,and_assoc]
inductive Ri where
 |eb (j:Nat) (a b:Bool)
 |eg (g:List (Nat × Bool)) (j:Nat) (a b:Bool)
 |cs (g:List (Nat × Bool)) (l:List Prop)
 |nd (g:List (Nat × Bool))
 |ng (g:List (Nat × Bool))
def Ri.P (yb:Nat→Bool):Ri→List Prop
 | .eb _ a b=>[a=b]
 | .eg g _ a b=>Cu yb g [a=b]
 | .cs g l=>Cu yb g l
 | .nd g=>[gP yb g]
 | .ng g=>[¬ gP yb g]
structure Zw where
 its:List Ri
 ent:Xq
 hd:List (Nat × Option Ob)
 ft:List Nat
section
variable (Fc:Cl→List SV→List (Nat × Option Ob)→TV→List (Nat × Option Ob)→Prop) (T:List (Nat × TI)) (ops:List Oper) (yb:Nat→Bool) (w:Nat→Bool→Bool) (an:Nat→uH) (fr:Nat→Nat) (N:Nat)
def PY (s:Slots) (o:Oper):Option (List (Nat × Bool) × List Ri):=
 match o.guard with
 |none=>some ([],[])
 |some (j,want)=>
  match ops[j]? with
  |some oj=>match oj.dst with
   |some d=>match s d with
    |some ⟨gj, .v (.one (.d (.bool b))),some j'⟩=>bif Nat.beq j j' then some ((j,want)::gj,[.eb j b (yb j)])else none
    |_=>none
   |none=>none
  |none=>none
def U6 (s:Slots) (g:List (Nat × Bool)) (c a b:Operand):Option (List Ri × TV):=
 match Q7 s c,Q7 s a,Q7 s b with
 |some ⟨gc, .v (.one (.d (.bool bc))),some jc⟩,some ⟨ga, .v (.one (.d (.bool x))),_⟩,some ⟨gb, .v (.one (.d (.bool y))),_⟩=>
  bif Bl gc g && Bl ga ((jc,true)::g) && Bl gb ((jc,false)::g)then some ([.eg g jc bc (yb jc)], .v (.one (.d (.bool (bif w jc bc then x else y)))))else none
 |_,_,_=>none
def Rz (i:Nat) (s:Slots) (h:Hp):Option Zw:=
 match ops[i]? with
 |none=>none
 |some o=>
  match PY ops yb s o with
  |none=>none
  |some (g,c0)=>
   bif Iy N o.dst then
    match o.op with
    | .pick c a b=>match U6 yb w s g c a b with
     |some (cs,tv)=>some ⟨c0++cs,⟨g,tv,some i⟩,[],[]⟩
     |none=>none
    |_=>
     match an i with
     | .skip=>some ⟨c0++[.ng g],⟨g, .v (.one (.d (.bool false))),some i⟩,[],[]⟩
     |_=>
     match MJ s g o.op.operands.toList with
     |none=>none
     |some xs=>
      let ft:=foot (an i) (fr i) o.op xs
      match eff Fc T (fr i) (an i) o.op xs (ft.map h)with
      |none=>none
      |some E=>bif mZ (E.hd.map (·.1)) ft then some ⟨c0++(.cs g E.conds::(bif FX g||FX E.hd then []else [.nd g])),⟨g,E.tv,some i⟩,E.hd,ft⟩else none
   else none
def runT:List Nat→RS→Option (List Ri × RS × List (Nat × BV))
 |[],r=>some ([],r,[])
 |i::l,r=>match Rz Fc T ops yb w an fr N i r.s r.h with
  |some c=>match runT l ⟨BM r.s ((ops[i]?).bind (·.dst)) c.ent,upd r.h c.hd⟩with
   |some (c',r2,inf)=>some (c.its++c',r2,(i,⟨c.ft,c.hd.map (·.1)⟩)::inf)
   |none=>none
  |none=>none
end
section
variable {Fc:Cl→List SV→List (Nat × Option Ob)→TV→List (Nat × Option Ob)→Prop} {T:List (Nat × TI)} {ops:List Oper} {yb:Nat→Bool} {an:Nat→uH} {fr:Nat→Nat} {N:Nat}
theorem Od {s:Slots} {o:Oper} {g:List (Nat × Bool)} {c:List Ri} (h:PY ops yb s o=some (g,c)):guardOf ops yb s o=some (g,c.flatMap (Ri.P yb)):=by
 unfold PY at h
 unfold guardOf
 split at h
 ·rename_i e;cases h;rw [e];rfl
 ·rename_i j want e
  rw [e]
  simp only
  split at h
  ·rename_i oj e1
   rw [e1]
   simp only
   split at h
   ·rename_i d e2
    rw [e2]
    simp only
    split at h
    ·rename_i gj b j' e3
     rw [e3]
     simp only
     cases hb:Nat.beq j j' with
     |false=>rw [hb]at h;cases h
     |true=>rw [hb]at h;cases h;rfl
    ·cases h
   ·cases h
  ·cases h
theorem Rs {s:Slots} {g:List (Nat × Bool)} {x a b:Operand} {c:List Ri} {tv:TV} (h:U6 yb (fun j _=>yb j) s g x a b=some (c,tv)): ∃cs,JC yb s g x a b=some (cs,tv)∧c.flatMap (Ri.P yb)=Cu yb g cs:=by
 unfold U6 at h
 unfold JC
 split at h
 ·rename_i gc bc jc ga xx _ gb yy _ e1 e2 e3
  rw [e1,e2,e3]
  simp only
  cases hb:(Bl gc g && Bl ga ((jc,true)::g) && Bl gb ((jc,false)::g))with
  |false=>rw [hb]at h;cases h
  |true=>rw [hb]at h;cases h;exact⟨_,rfl,by simp [Ri.P]⟩
 ·cases h
theorem Qq {i:Nat} {s:Slots} {h:Hp} {c:Zw} (hc:Rz Fc T ops yb (fun j _=>yb j) an fr N i s h=some c):core Fc T ops yb an fr N i s h=some ⟨c.its.flatMap (Ri.P yb),c.ent,c.hd,c.ft⟩:=by
 unfold Rz at hc
 unfold core
 split at hc
 ·cases hc
 ·rename_i o e
  rw [e]
  simp only
  split at hc
  ·cases hc
  ·rename_i g c0 e1
   rw [Od e1]
   simp only
   cases hd:Iy N o.dst with
   |false=>rw [hd]at hc;cases hc
   |true=>
    rw [hd]at hc
    simp only [cond_true]at hc ⊢
    split at hc
    ·rename_i x a b e2
     rw [e2]
     simp only
     split at hc
     ·rename_i cs tv e3
      cases hc
      obtain⟨cs',h1,h2⟩:=Rs e3
      rw [h1]
      simp [List.flatMap_append,h2]
     ·cases hc
    ·rename_i hnp
     split
     ·rename_i x a b e2;exact absurd e2 (hnp x a b)
     ·split at hc
      ·rename_i e3;cases hc;simp [List.flatMap_append,Ri.P,e3]
      ·rename_i hns
       split
       ·rename_i e3;exact absurd e3 hns
       ·split at hc
        ·cases hc
        ·rename_i xs e4
         rw [e4]
         simp only at hc ⊢
         split at hc
         ·cases hc
         ·rename_i E e5
          rw [e5]
          simp only
          cases hs:mZ (E.hd.map (·.1)) (foot (an i) (fr i) o.op xs)with
          |false=>rw [hs]at hc;cases hc
          |true=>
           rw [hs]at hc
           simp only [cond_true]at hc ⊢
           cases hc
           cases hg:(FX g||FX E.hd)<;>simp [List.flatMap_append,Ri.P]
theorem K7: ∀{l:List Nat} {r r':RS} {its:List Ri} {inf:List (Nat × BV)},runT Fc T ops yb (fun j _=>yb j) an fr N l r=some (its,r',inf)→GV Fc T ops yb an fr N l r=some (its.flatMap (Ri.P yb),r',inf)
 |[],r,r',its,inf,h=>by cases h;rfl
 |i::l,r,r',its,inf,h=>by
  unfold runT at h
  unfold GV
  split at h
  ·rename_i c e
   rw [Qq e]
   simp only
   split at h
   ·rename_i c' r2 inf' e2
    cases h
    rw [K7 e2]
    simp [List.flatMap_append]
   ·cases h
  ·cases h
theorem Bg: ∀{l:List Nat} {r r':RS} {cs:List Prop} {inf:List (Nat × BV)},GV Fc T ops yb an fr N l r=some (cs,r',inf)→run Fc T ops yb an fr N l r=some (cs,r')
 |[],r,r',cs,inf,h=>by cases h;rfl
 |i::l,r,r',cs,inf,h=>by
  unfold GV at h
  unfold run step
  split at h
  ·rename_i c e
   try rw [e]
   simp only
   split at h
   ·rename_i c' r2 inf' e2
    cases h
    first|rw [Bg e2]|simp only [Bg e2]
   ·cases h
  ·cases h
end
def LY (f:Fin) (h:Hp):CV→List (Nat × Nat)
 | .own b _ len=>bif jb b f.frz then(match h b with
   |some (some (.arr _ _ len' _))=>[(len,len')]
   |some (some (.rows _ _ len' _ none))=>[(len,len')]
   |_=>[])else []
 | .fn _ _ n cap=>(List.range n).flatMap fun j=>LY f h (cap j)
 |_=>[]
def U0 (f:Fin) (h:Hp) (s:SV):List (Nat × Nat):=(cellsOf s).flatMap (LY f h)
def XP (f:Fin) (h:Hp):TV→List (Nat × Nat)
 | .v s=>U0 f h s
 | .iP l=>l.flatMap (U0 f h)
def acW (f:Fin) (h:Hp):Ob→List (Nat × Nat)
 | .cells _ cs=>cs.flatMap (LY f h)
 | .rows _ _ _ _ (some (_,_,c))=>LY f h c
 | .loop _ _ sl=>sl.flatMap fun p=>XP f h p.2
 |_=>[]
def YN (f:Fin) (h:Hp):List (Nat × Nat)→List (Nat × Nat)
 |[]=>[]
 |(b,_)::l=>(match h b with
  |some (some ob)=>bif jb b f.frz then []else acW f h ob
  |_=>[])++YN f h l
def Gg (l:List (Nat × Nat)):Prop:= ∀e∈l,e.1=e.2
theorem Gg.app {l m:List (Nat × Nat)}:Gg (l++m)↔Gg l∧Gg m:=by simp [Gg,or_imp,forall_and]
section
variable {f:Fin} {h:Hp}
theorem O7 {α:Type} {g:α→Option (List Prop × CV)} {e:α→List (Nat × Nat)} (hg: ∀x p c,g x=some (p,c)→Gg (e x)→All p): ∀{l:List α} {p:List Prop} {cs:List CV},Pw (l.map g)=some (p,cs)→Gg (l.flatMap e)→All p
 |[],p,cs,hs,_=>by cases hs;trivial
 |x::l,p,cs,hs,he=>by
  rw [List.flatMap_cons,Gg.app]at he
  rw [List.map_cons]at hs
  cases hx:g x with
  |none=>rw [hx]at hs;cases hs
  |some y=>
   obtain⟨q,c⟩:=y
   rw [hx]at hs
   simp only [Pw]at hs
   split at hs
   ·rename_i q' cs' e2
    cases hs
    rw [bK]
    exact⟨hg x q c hx he.1,O7 hg e2 he.2⟩
   ·cases hs
theorem H7: ∀{c c':CV} {p:List Prop},yw f h c=some (p,c')→Gg (LY f h c)→All p:=by
 intro c
 induction c with
 |d x=>intro c' p hf _;cases hf;trivial
 |ptr b off=>
  intro c' p hf _
  unfold yw at hf
  cases hb:jb b f.frz with
  |true=>
   simp only [hb,cond_true]at hf
   split at hf
   ·split at hf
    ·cases hf;trivial
    ·cases hf
   ·cases hf;trivial
   ·cases hf
  |false=>
   simp only [hb,cond_false]at hf
   split at hf
   ·cases hf;trivial
   ·cases hf
 |opt b e i off=>
  intro c' p hf _
  unfold yw at hf
  cases hb:jb b f.frz with
  |true=>simp [hb]at hf
  |false=>
   simp only [hb,cond_false]at hf
   split at hf
   ·cases hf;trivial
   ·cases hf
 |own b nn len=>
  intro c' p hf he
  unfold yw at hf
  unfold LY at he
  cases hb:jb b f.frz with
  |true=>
   simp only [hb,cond_true]at hf he
   split at hf
   ·rename_i e1
    rw [e1]at he
    cases hf
    exact⟨he (_,_) (List.mem_singleton.2 rfl),trivial⟩
   ·rename_i e1
    rw [e1]at he
    cases hf
    exact⟨he (_,_) (List.mem_singleton.2 rfl),trivial⟩
   ·cases hf
  |false=>
   simp only [hb,cond_false]at hf
   split at hf
   ·cases hf;trivial
   ·cases hf
 |mp b=>
  intro c' p hf _
  unfold yw at hf
  cases hb:jb b f.frz with
  |true=>simp [hb]at hf
  |false=>
   simp only [hb,cond_false]at hf
   split at hf
   ·cases hf;trivial
   ·cases hf
 |yl b=>
  intro c' p hf _
  unfold yw at hf
  cases hb:jb b f.frz with
  |true=>simp [hb]at hf
  |false=>
   simp only [hb,cond_false]at hf
   split at hf
   ·cases hf;trivial
   ·cases hf
 |fn g nf n cap ih=>
  intro c' p hf he
  unfold yw at hf
  unfold LY at he
  split at hf
  ·rename_i q cs e1
   cases hf
   exact O7 (g:=fun j=>yw f h (cap j)) (e:=fun j=>LY f h (cap j)) (fun j q c hq hqe=>ih j hq hqe) e1 he
  ·cases hf
theorem Jw: ∀{cs cs':List CV} {p:List Prop},O6 f h cs=some (p,cs')→Gg (cs.flatMap (LY f h))→All p
 |[],_,p,hf,_=>by cases hf;trivial
 |c::cs,_,p,hf,he=>by
  rw [List.flatMap_cons,Gg.app]at he
  unfold O6 at hf
  split at hf
  ·rename_i e1 e2;cases hf;rw [bK];exact⟨H7 e1 he.1,Jw e2 he.2⟩
  ·cases hf
theorem Oo {s s':SV} {p:List Prop} (hf:Pe f h s=some (p,s')) (he:Gg (U0 f h s)):All p:=by
 cases s with
 |one c=>
  unfold Pe at hf
  simp only at hf
  split at hf
  ·rename_i e;cases hf;exact H7 e (by simpa [U0,cellsOf]using he)
  ·cases hf
 |agg cs=>
  unfold Pe at hf
  simp only at hf
  split at hf
  ·rename_i e;cases hf;exact Jw e he
  ·cases hf
theorem LC: ∀{cs cs':List SV} {p:List Prop},Gi f h cs=some (p,cs')→Gg (cs.flatMap (U0 f h))→All p
 |[],_,p,hf,_=>by cases hf;trivial
 |c::cs,_,p,hf,he=>by
  rw [List.flatMap_cons,Gg.app]at he
  unfold Gi at hf
  split at hf
  ·rename_i e1 e2;cases hf;rw [bK];exact⟨Oo e1 he.1,LC e2 he.2⟩
  ·cases hf
theorem PG {s s':TV} {p:List Prop} (hf:JL f h s=some (p,s')) (he:Gg (XP f h s)):All p:=by
 cases s with
 |v c=>
  unfold JL at hf
  simp only at hf
  split at hf
  ·rename_i e;cases hf;exact Oo e he
  ·cases hf
 |iP cs=>
  unfold JL at hf
  simp only at hf
  split at hf
  ·rename_i e;cases hf;exact LC e he
  ·cases hf
theorem Lc: ∀{cs cs':List (Nat × TV)} {p:List Prop},IK f h cs=some (p,cs')→Gg (cs.flatMap fun p=>XP f h p.2)→All p
 |[],_,p,hf,_=>by cases hf;trivial
 |(t,c)::cs,_,p,hf,he=>by
  rw [List.flatMap_cons,Gg.app]at he
  unfold IK at hf
  split at hf
  ·rename_i e1 e2;cases hf;rw [bK];exact⟨PG e1 he.1,Lc e2 he.2⟩
  ·cases hf
theorem WA {o o':Ob} {p:List Prop} (hf:yx f h o=some (p,o')) (he:Gg (acW f h o)):All p:=by
 unfold yx at hf
 split at hf
 ·split at hf
  ·rename_i e;cases hf;exact Jw e he
  ·cases hf
 ·cases hf;trivial
 ·cases hf;trivial
 ·cases hf;trivial
 ·split at hf
  ·rename_i e;cases hf;exact H7 e he
  ·cases hf
 ·rename_i m
  revert hf
  generalize (m.ms.all _)=b
  cases b with
  |true=>intro hf;cases hf;trivial
  |false=>intro hf;cases hf
 ·split at hf
  ·rename_i e;cases hf;exact Lc e he
  ·cases hf
 ·cases hf;trivial
 ·rename_i b l e
  cases hb:jb b f.frz with
  |true=>simp [hb]at hf
  |false=>
   simp only [hb,cond_false]at hf
   split at hf
   ·cases hf;trivial
   ·cases hf
theorem EB: ∀{l:List (Nat × Nat)} {p:List Prop} {m:List (Nat × Option Ob)},KF f h l=some (p,m)→Gg (YN f h l)→All p
 |[],p,m,hf,_=>by cases hf;trivial
 |(b,b')::l,p,m,hf,he=>by
  unfold YN at he
  rw [Gg.app]at he
  unfold KF at hf
  split at hf
  ·rename_i e1 e2;cases hf;exact EB e2 he.2
  ·rename_i ob q m' e1 e2
   rw [e1]at he
   cases hb:jb b f.frz with
   |true=>simp only [hb,cond_true]at hf;cases hf;exact EB e2 he.2
   |false=>
    simp only [hb,cond_false]at hf he
    split at hf
    ·rename_i e3;cases hf;rw [bK];exact⟨WA e3 he.1,EB e2 he.2⟩
    ·cases hf
  ·cases hf
def PO (f:Fin) (h:Hp) (s:Slots):List Nat→List (Nat × Nat) × List (Nat × TV)
 |[]=>([],[])
 |t::ts=>match s t with
  |some ⟨[],tv,_⟩=>match JL f h tv with
   |some (_,tv')=>match PO f h s ts with|(e,l)=>(XP f h tv++e,(t,tv')::l)
   |none=>PO f h s ts
  |_=>PO f h s ts
theorem BJ {s:Slots}: ∀{ts:List Nat} {e:List (Nat × Nat)} {l:List (Nat × TV)},PO f h s ts=(e,l)→Gg e→ ∃ts' p,Oy f h s ts'=some (p,l)∧All p
 |[],e,l,ha,_=>by cases ha;exact⟨[],[],rfl,trivial⟩
 |t::ts,e,l,ha,he=>by
  unfold PO at ha
  split at ha
  ·rename_i tv src e1
   split at ha
   ·rename_i p tv' e2
    cases hr:PO f h s ts with
    |mk e' l'=>
     rw [hr]at ha
     cases ha
     rw [Gg.app]at he
     obtain⟨ts',q,h1,h2⟩:=BJ hr he.2
     refine⟨t::ts',p++q, ?_,bK.2 ⟨PG e2 he.1,h2⟩⟩
     unfold Oy
     rw [e1,h1]
     simp only [e2]
   ·exact BJ ha he
  ·exact BJ ha he
def Pz (L:List Nat) (fz sk:List Nat) (ren:List (Nat × Nat)) (r:RS):Option (List (Nat × Nat) × St):=
 bif IX L ⟨fz,ren⟩then
  match KF ⟨fz,ren⟩ r.h ren with
  |some (_,hp)=>match PO ⟨fz,ren⟩ r.h r.s sk with|(e,sl)=>some (e++YN ⟨fz,ren⟩ r.h ren,⟨sl,hp⟩)
  |none=>none
 else none
theorem yC {L fz sk:List Nat} {ren:List (Nat × Nat)} {r:RS} {e:List (Nat × Nat)} {st:St} (ha:Pz L fz sk ren r=some (e,st)) (he:Gg e) (cs:List Prop) (hcs:All cs): ∃ts cs',finish L ⟨fz,ren⟩ ts cs r=some (cs',st)∧All cs':=by
 unfold Pz at ha
 cases hb:IX L ⟨fz,ren⟩with
 |false=>rw [hb]at ha;cases ha
 |true=>
  rw [hb]at ha
  simp only [cond_true]at ha
  split at ha
  ·rename_i q hp e1
   cases hr:PO ⟨fz,ren⟩ r.h r.s sk with
   |mk e' sl=>
    rw [hr]at ha
    cases ha
    rw [Gg.app]at he
    obtain⟨ts,p,h1,h2⟩:=BJ hr he.1
    refine⟨ts,cs++(p++q), ?_, ?_⟩
    ·unfold finish
     rw [hb]
     simp only [cond_true,h1,e1]
    ·rw [bK,bK]
     exact⟨hcs,h2,EB e1 he.2⟩
  ·cases ha
end
def okO (f:Fin) (h:Hp) (b:Nat):Bool:=match h b with
 |some (some ob)=>bif jb b f.frz then true else(match yx f h ob with|some _=>true|none=>false)
 |some none=>true
 |none=>false
def Zv (fz:List Nat) (h:Hp):Nat→List Nat→List Nat
 |0,ks=>ks
 |n+1,ks=>(fun ks'=>bif Nat.beq ks'.length ks.length then ks else Zv fz h n ks') (ks.filter (okO ⟨fz,ks.map fun b=>(b,b)⟩ h))
def Vj (L fz sk ks:List Nat) (r:RS):Option (List (Nat × Nat) × St):=
 match Pz L fz sk (ks.map fun b=>(b,b)) r with
 |some x=>some x
 |none=>Pz L fz sk ((Zv fz r.h 30 ks).map fun b=>(b,b)) r
theorem K9 {L fz sk ks:List Nat} {r:RS} {e:List (Nat × Nat)} {st:St} (ha:Vj L fz sk ks r=some (e,st)): ∃ren,Pz L fz sk ren r=some (e,st):=by
 unfold Vj at ha
 split at ha
 ·rename_i x h;cases ha;exact⟨_,h⟩
 ·exact⟨_,ha⟩
structure RX where
 an:List (Nat × uH):=[]
 fr:List (Nat × Nat):=[]
 ov:List (Nat × Bool × Nat):=[]
 sk:List Nat:=[]
 fz:List Nat:=[]
 ts:List Nat:=[]
def Ua (x:RX) (an:List (Nat × uH)):Nat→uH:=fun i=>bif jb i x.sk then .skip else match get x.an i with|some a=>a|none=>anf an i
def Ye (j:Nat):List Ri→Bool
 |[]=>false
 | .eb i a _::l=>bif Nat.beq i j then a else Ye j l
 | .eg _ i a _::l=>bif Nat.beq i j then a else Ye j l
 |_::l=>Ye j l
def ybX (ov:List (Nat × Bool × Nat)) (l:Option (List Ri × RS × List (Nat × BV))):Nat→Bool:=fun j=>
 match get ov j with
 |some (v,_)=>v
 |none=>match l with|some (its,_)=>Ye j its|none=>false
def ovB (ov:List (Nat × Bool × Nat)) (j:Nat) (b:Bool):Bool:=match get ov j with|some (v,_)=>v|none=>b
def Gv:List Nat→List Nat→List Nat
 |[],acc=>acc
 |x::l,acc=>bif jb x acc then Gv l acc else Gv l (x::acc)
def dstsOf:List Oper→List Nat
 |[]=>[]
 |o::l=>match o.dst with|some d=>d::dstsOf l|none=>dstsOf l
def Zj:List (Nat × BV)→List Nat
 |[]=>[]
 |(_,i)::l=>i.wr++Zj l
structure RR where
 its:List Ri
 ok:Bool
 yb:Nat→Bool
 eq:List (Nat × Nat)
 st:St
section
variable (Fc:Cl→List SV→List (Nat × Option Ob)→TV→List (Nat × Option Ob)→Prop) (T:List (Nat × TI)) (ops:Array Oper) (dr:Bool) (N:Nat) (L:List Nat)
def Zt (x:RX) (st:St) (yb:Nat→Bool) (l:Option (List Ri × RS × List (Nat × BV))):Option RR:=
 match l with
 |some (its,r,inf)=>
  match Vj L x.fz (match x.ts with|[]=>Gv (dstsOf ops.toList++sJ st.slots) []|ts=>ts) (Gv (Zj inf++sJ st.heap) []) r with
  |some (e,st')=>some ⟨its,(bif dr then(FR ops.toList (fun i=>match get (ZW ops) i with|some l=>l|none=>[]) ops.size && rP ops.toList (Iq inf) (fun i=>match get (ZW ops) i with|some l=>l|none=>[]) ops.size)else true),yb,e,st'⟩
  |none=>none
 |none=>none
def YQ (x:RX) (an:List (Nat × uH)) (st:St):Option RR:=
 let yb:=ybX x.ov (runT Fc T ops.toList (fun _=>false) (ovB x.ov) (Ua x an) (Xr x.fr) N (List.range ops.size) (Ak st))
 Zt ops dr L x st yb (runT Fc T ops.toList yb (fun j _=>yb j) (Ua x an) (Xr x.fr) N (List.range ops.size) (Ak st))
end
def afS (Fc:Cl→List SV→List (Nat × Option Ob)→TV→List (Nat × Option Ob)→Prop) (T:List (Nat × TI)) (ops:List Oper) (yb:Nat→Bool) (w:Nat→Bool→Bool) (an:Nat→uH) (fr:Nat→Nat) (N:Nat):List Nat→RS→Nat
 |[],_=>999
 |i::l,r=>match Rz Fc T ops yb w an fr N i r.s r.h with
  |some c=>afS Fc T ops yb w an fr N l ⟨BM r.s ((ops[i]?).bind (·.dst)) c.ent,upd r.h c.hd⟩
  |none=>i
section
variable {rd:Option Nat} {P:Program} {B:Base} {N:Nat} {L:List Nat} {T:List (Nat × TI)} {Q:Exit→St→Prop} {st st':St}
theorem V8 (hT:su P T) (hm:P.follows .mixedOrders=true) {id:Nat} {ops:Array Oper} {dr:Bool} {x:RX} {an:List (Nat × uH)} {R:RR} (he:YQ (GX P) T ops dr N L x an st=some R) (hok:R.ok=true) (heq:Gg R.eq)
  (hc: ∀it∈R.its,All (it.P R.yb)) (hQ:Q .normal R.st):jE rd P B N L (.region id ops dr) Q st:=by
 unfold YQ at he
 simp only at he
 generalize ybX x.ov (runT (GX P) T ops.toList (fun _=>false) (ovB x.ov) (Ua x an) (Xr x.fr) N (List.range ops.size) (Ak st))=yb at he
 unfold Zt at he
 split at he
 ·rename_i its r inf hrun
  split at he
  ·rename_i e st1 hfin
   cases he
   simp only at hok heq hc hQ
   have hall:All (its.flatMap (Ri.P yb)):=by
    clear hrun hfin hQ
    induction its with
    |nil=>trivial
    |cons i l ih=>rw [List.flatMap_cons,bK];exact⟨hc i (by simp),ih fun j hj=>hc j (by simp [hj])⟩
   have hI:=K7 hrun
   obtain⟨ren,hfin⟩:=K9 hfin
   obtain⟨ts,cs',hf,hcs⟩:=yC hfin heq _ hall
   cases dr with
   |false=>
    refine I9 hT {yb:=yb,an:=Ua x an,fr:=Xr x.fr,fin:=⟨x.fz,ren⟩,ts:=ts} (cs:=cs') ?_ hcs hQ
    unfold Nv
    simp only
    rw [Bg hI]
    exact hf
   |true=>
    refine zS hT hm {yb:=yb,an:=Ua x an,fr:=Xr x.fr,fin:=⟨x.fz,ren⟩,ts:=ts} (ZW ops) (cs:=cs') ?_ hcs hQ
    unfold Ol
    simp only
    rw [hI]
    simp only
    simp only [cond_true]at hok
    exact(congrArg (fun b:Bool=>bif b then finish L ⟨x.fz,ren⟩ ts (its.flatMap (Ri.P yb)) r else none) hok).trans hf
  ·cases he
 ·cases he
end
def nCk (l:List (Nat × Nat)):CP:=l.map fun e=>(.n e.1, .n e.2)
theorem FZ: ∀{l:List (Nat × Nat)},CP.ok (nCk l)→Gg l
 |[],_=>fun _ h=>by simp at h
 |e::l,h=>fun x hx=>by
  rcases List.mem_cons.1 hx with rfl|hx
  ·exact Ck.n.inj h.1
  ·exact FZ (l:=l) h.2 x hx
def R5 (g:Nat→CP × DV) (c':Nat→DV):Nat→CP
 |0=>[]
 |n+1=>(.dv (g n).2, .dv (c' n))::((g n).1++R5 g c' n)
theorem Jl {g:Nat→CP × DV} {c':Nat→DV}: ∀{n:Nat},(R5 g c' n).ok→ ∀j,j<n→(g j).1.ok∧(g j).2=c' j
 |0,_,j,hj=>by omega
 |n+1,h,j,hj=>by
  obtain⟨h1,h2⟩:=h
  rw [CP.lH]at h2
  by_cases e:j=n
  ·subst e;exact⟨h2.1,Ck.dv.inj h1⟩
  ·exact Jl h2.2 j (by omega)
def QF:DV→DV→CP × DV
 | .sl rX e' l' f',x=>match x with
  | .sl nn e l f=>bif Nat.beq e 0 then([(.n l, .n 0),(.n l', .n 0)], .sl (match rX with|none=>none|some _=>nn) e' l' f')
   else([], .sl (match rX with|none=>none|some _=>nn) e l f)
  |x=>([],x)
 | .ip n' c',x=>match x with
  | .ip n c=>((.b (Nat.ble n' n), .b true)::R5 (fun j=>QF (c' j) (c j)) c' n', .ip n' c')
  |x=>([],x)
 | .fn f' n' c',x=>match x with
  | .fn f n c=>((.n n, .n n')::R5 (fun j=>QF (c' j) (c j)) c' n', .fn f n' c')
  |x=>([],x)
 |_,x=>([],x)
def Rb (t x:CV):CP × CV:=
 match t,x with
 | .d t, .d x=>((QF t x).1, .d (QF t x).2)
 | .own _ false _, .own b _ n=>([], .own b false n)
 |_,x=>([],x)
def KD:List CV→List CV→CP × List CV
 |t::ts,x::xs=>((Rb t x).1++(KD ts xs).1,(Rb t x).2::(KD ts xs).2)
 |_,xs=>([],xs)
def Rp (t x:SV):CP × SV:=
 match t,x with
 | .one t, .one x=>((Rb t x).1, .one (Rb t x).2)
 | .agg ts, .agg xs=>((KD ts xs).1, .agg (KD ts xs).2)
 |_,x=>([],x)
def AJ:List SV→List SV→CP × List SV
 |t::ts,x::xs=>((Rp t x).1++(AJ ts xs).1,(Rp t x).2::(AJ ts xs).2)
 |_,xs=>([],xs)
def OC (t x:TV):CP × TV:=
 match t,x with
 | .v t, .v x=>((Rp t x).1, .v (Rp t x).2)
 | .iP ts, .iP xs=>((AJ ts xs).1, .iP (AJ ts xs).2)
 |_,x=>([],x)
def Vn (t x:Option Ob):CP × Option Ob:=
 match t,x with
 |some (.cells _ ts),some (.cells E xs)=>((KD ts xs).1,some (.cells E (KD ts xs).2))
 |none,_=>([],none)
 |_,x=>([],x)
def yh:List (Nat × TV)→List (Nat × TV)→CP × List (Nat × TV)
 |(_,t)::ts,(k,x)::xs=>((OC t x).1++(yh ts xs).1,(k,(OC t x).2)::(yh ts xs).2)
 |_,xs=>([],xs)
def Cb:List (Nat × Option Ob)→List (Nat × Option Ob)→CP × List (Nat × Option Ob)
 |(_,t)::ts,(k,x)::xs=>((Vn t x).1++(Cb ts xs).1,(k,(Vn t x).2)::(Cb ts xs).2)
 |_,xs=>([],xs)
theorem afU (nn rX:Option Bool):(match rX with|none=>none|some _=>nn)=none∨(match rX with|none=>none|some _=>nn)=nn:=by cases rX<;>simp
theorem Yg: ∀{t x:DV},(QF t x).1.ok→jL x (QF t x).2:=by
 intro t
 induction t with
 |sl rX e' l' f' _=>
  intro x h
  cases x with
  |sl nn e l f=>
   simp only [QF]at h ⊢
   cases he:Nat.beq e 0 with
   |true=>
    simp only [he,cond_true]at h ⊢
    have h1:l=0:=Ck.n.inj h.1
    have h2:l'=0:=Ck.n.inj h.2.1
    subst h1;subst h2
    rintro F w v ⟨a,cap,hv,g1,g2,g3,g4,g5⟩
    refine⟨a,cap,hv, ?_, ?_,g3,g4,fun ad ha=> ⟨fun hh=>absurd hh (by omega),fun i hi=>by omega⟩⟩
    ·intro hh;cases rX with
     |none=>cases hh
     |some b=>exact g1 hh
    ·intro hh;cases rX with
     |none=>cases hh
     |some b=>exact g2 hh
   |false=>
    simp only [he,cond_false]
    exact jL.sl (afU _ _) fun _ _ _ _=> .refl _
  |_=>exact .refl _
 |ip n' c' ih=>
  intro x h
  cases x with
  |ip n c=>
   obtain⟨h1,h2⟩:=h
   have hc:=Jl h2
   refine jL.ip' (Nat.le_of_ble_eq_true (Ck.b.inj h1)) fun j hj=> ?_
   have:=ih j (x:=c j) (hc j hj).1
   rwa [(hc j hj).2]at this
  |_=>exact .refl _
 |fn f' n' c' ih=>
  intro x h
  cases x with
  |fn f n c=>
   obtain⟨h1,h2⟩:=h
   have hn:n=n':=Ck.n.inj h1
   subst hn
   have hc:=Jl h2
   rintro F w v ⟨vs,hv,hl,hr⟩
   refine⟨vs,hv,hl,fun j u hu=> ?_⟩
   have hj:j<n:=by rw [←hl];exact(List.getElem?_eq_some_iff.1 hu).1
   have:=ih j (x:=c j) (hc j hj).1
   rw [(hc j hj).2]at this
   exact this F w u (hr j u hu)
  |_=>exact .refl _
 |_=>intro x _;exact .refl _
theorem RP {t x:CV} (h:(Rb t x).1.ok):gV x (Rb t x).2:=by
 unfold Rb at h ⊢
 split
 ·exact gV.d (Yg h)
 ·rintro ρ F w v (⟨k,base,cap,h1,h2⟩|⟨h0,h1,h2,h3⟩)
  ·exact .inl ⟨k,base,cap,h1,h2⟩
  ·exact .inr ⟨rfl,h1,h2,h3⟩
 ·exact .refl _
theorem MN: ∀{ts xs:List CV},(KD ts xs).1.ok→NI xs (KD ts xs).2
 |t::ts,x::xs,h=>by
  simp only [KD,CP.lH]at h
  exact⟨RP h.1,MN h.2⟩
 |[],xs,_=>by
  have: ∀l:List CV,NI l l:=fun l=>by induction l with|nil=>trivial|cons c l ih=>exact⟨.refl _,ih⟩
  simpa [KD]using this xs
 |_::_,[],_=>trivial
theorem RN {t x:SV} (h:(Rp t x).1.ok):uI x (Rp t x).2:=by
 unfold Rp at h ⊢
 split
 ·exact uI.one (RP h)
 ·exact uI.agg (MN h)
 ·exact .refl _
theorem IZ: ∀{ts xs:List SV},(AJ ts xs).1.ok→KE xs (AJ ts xs).2
 |t::ts,x::xs,h=>by
  simp only [AJ,CP.lH]at h
  exact⟨RN h.1,IZ h.2⟩
 |[],xs,_=>by
  have: ∀l:List SV,KE l l:=fun l=>by induction l with|nil=>trivial|cons c l ih=>exact⟨.refl _,ih⟩
  simpa [AJ]using this xs
 |_::_,[],_=>trivial
theorem R6 {t x:TV} (h:(OC t x).1.ok):zu x (OC t x).2:=by
 unfold OC at h ⊢
 split
 ·exact zu.v (RN h)
 ·exact zu.iP (IZ h)
 ·exact .refl _
theorem XL {t x:Option Ob} (h:(Vn t x).1.ok):Ny x (Vn t x).2:=by
 unfold Vn at h ⊢
 split
 ·exact bH (MN h)
 ·cases x<;>trivial
 ·exact .refl _
theorem LH: ∀{ts xs:List (Nat × TV)},(yh ts xs).1.ok→ ∀t tv',get (yh ts xs).2 t=some tv'→ ∃tv,get xs t=some tv∧zu tv tv'
 |(_,y)::ts,(k,x)::xs,h,t,tv',ht=>by
  simp only [yh,CP.lH]at h
  simp only [yh,aJ]at ht
  rw [aJ]
  split at ht
  ·rename_i e;cases ht;rw [if_pos e];exact⟨x,rfl,R6 h.1⟩
  ·rename_i e;rw [if_neg e];exact LH h.2 t tv' ht
 |[],xs,_,t,tv',ht=> ⟨tv',by simpa [yh]using ht, .refl _⟩
 |_::_,[],_,t,tv',ht=>by simp [yh,get]at ht
theorem Hr: ∀{ts xs:List (Nat × Option Ob)},(Cb ts xs).1.ok→sG xs (Cb ts xs).2
 |(_,y)::ts,(k,x)::xs,h=>by
  simp only [Cb,CP.lH]at h
  exact⟨rfl,XL h.1,Hr h.2⟩
 |[],xs,_=>by simpa [Cb]using sG.refl xs
 |_::_,[],_=>trivial
def acN (b:Nat):List (Nat × Nat)→Nat
 |[]=>b
 |(a,c)::l=>bif Nat.beq c b then a else acN b l
def X3 (rn:List (Nat × Nat)):List Nat→List (Nat × Nat)
 |[]=>[]
 |b::l=>(acN b rn,b)::X3 rn l
def narrow (L fz:List Nat) (rn:List (Nat × Nat)) (tg st:St):Option CP:=
 match Pz L fz (sJ tg.slots) (X3 rn (sJ tg.heap)) (Ak st)with
 |some (e,s1)=>some (nCk e++((yh tg.slots s1.slots).1++((Cb tg.heap s1.heap).1++[(.st ⟨(yh tg.slots s1.slots).2,(Cb tg.heap s1.heap).2⟩, .st tg)])))
 |none=>none
section
variable {B:Base} {N:Nat} {L:List Nat} {st tg:St}
theorem X0 {s1:St} {ts:List (Nat × TV)} {hs:List (Nat × Option Ob)} (h1:(yh ts s1.slots).1.ok) (h2:(Cb hs s1.heap).1.ok):d9 B N L s1 ⟨(yh ts s1.slots).2,(Cb hs s1.heap).2⟩:=by
 intro a w hc
 obtain⟨⟨ρ,F,hfr,hhi,hs',dn⟩,hid,sz⟩:=hc
 refine⟨⟨ρ,F,hfr,hhi.le (Hr h2),fun t tv ht=> ?_,dn⟩,hid,sz⟩
 obtain⟨tv0,g1,g2⟩:=LH h1 t tv ht
 obtain⟨v,hv,hr⟩:=hs' t tv0 g1
 exact⟨v,hv,g2 _ _ _ _ hr⟩
theorem tC {fz:List Nat} {rn:List (Nat × Nat)} {c:CP} (h:narrow L fz rn tg st=some c) (hc:c.ok):d9 B N L st tg:=by
 unfold narrow at h
 split at h
 ·rename_i e s1 e1
  cases h
  rw [CP.lH,CP.lH,CP.lH]at hc
  have hq:=FZ hc.1
  have he:(⟨(yh tg.slots s1.slots).2,(Cb tg.heap s1.heap).2⟩:St)=tg:=Ck.st.inj hc.2.2.2.1
  obtain⟨ts,cs',hf,hcs⟩:=yC e1 hq [] trivial
  exact he ▸ d9.trans (d9.fin _ ts hf hcs) (X0 hc.2.1 hc.2.2.1)
 ·cases h
end
inductive Kf where
 |sq (y:Code)
 |bl (id:Nat)
 |lo (c:Code) (n:Nat)
 |sc
section
variable (rd:Option Nat) (P:Program) (B:Base) (N:Nat) (L:List Nat)
def post:List Kf→(Exit→St→Prop)→Exit→St→Prop
 |[],Q=>Q
 | .sq y::K,Q=>fun e st=>match e with| .normal=>jE rd P B N L y (post K Q) st|e=>post K Q e st
 | .bl id::K,Q=>fun e st=>match e with| .exit i=>bif Nat.beq i id then post K Q .normal st else post K Q (.exit i) st|e=>post K Q e st
 | .lo c n::K,Q=>fun e st=>match e with| .normal=>LoopN rd P B N L c (post K Q) n st|e=>post K Q e st
 | .sc::K,Q=>fun e st=>(∀l,e≠ .goto l)∧post K Q e st
def QI (Q:Exit→St→Prop) (e:Exit) (st:St):Prop:= ∃s',d9 B N L st s'∧Q e s'
end
inductive CE where
 |c (x:Code)
 |e (x:Exit)
inductive Foc where
 |at(c:Code) (K:List Kf)
 |fin (e:Exit)
 |bad
def go:Nat→CE→List Kf→Foc
 |0,_,_=> .bad
 |n+1, .c c,K=>match c with
  | .seq x y=>go n (.c x) (.sq y::K)
  | .block id x=>go n (.c x) (.bl id::K)
  | .skip=>go n (.e .normal) K
  | .label _=>go n (.e .normal) K
  | .exit i=>go n (.e (.exit i)) K
  | .ret=>go n (.e .ret) K
  | .goto l=>go n (.e (.goto l)) K
  |c=> .at c K
 |n+1, .e e,K=>match K with
  |[]=> .fin e
  | .sq y::K=>match e with| .normal=>go n (.c y) K|e=>go n (.e e) K
  | .bl id::K=>match e with| .exit i=>bif Nat.beq i id then go n (.e .normal) K else go n (.e (.exit i)) K|e=>go n (.e e) K
  | .lo c m::K=>match e with| .normal=>(match m with|0=> .bad|m+1=>go n (.c c) (.lo c m::K))|e=>go n (.e e) K
  | .sc::K=>match e with| .goto _=> .bad|e=>go n (.e e) K
theorem IA {rd:Option Nat} {P:Program} {B:Base} {N:Nat} {L:List Nat} {c:Code} {Q Q':Exit→St→Prop} (hq: ∀e st,Q e st→Q' e st): ∀{n:Nat} {st:St},LoopN rd P B N L c Q n st→LoopN rd P B N L c Q' n st
 |0,_,h=>h
 |n+1,st,h=>iQ (Q:=fun e st'=>match e with| .normal=>LoopN rd P B N L c Q n st'|e=>Q e st') h fun e st' hh=>by
  cases e with
  |normal=>exact IA hq (n:=n) hh
  |_=>exact hq _ _ hh
theorem Td {rd:Option Nat} {P:Program} {B:Base} {N:Nat} {L:List Nat} {c:Code} {Q:Exit→St→Prop} {n:Nat} {st st':St} (h:d9 B N L st st') (hw:LoopN rd P B N L c Q n st'):LoopN rd P B N L c Q n st:=by
 cases n with
 |zero=>exact hw
 |succ n=>exact xk h hw
section
variable {rd:Option Nat} {P:Program} {B:Base} {N:Nat} {L:List Nat} {T:List (Nat × TI)} {Q:Exit→St→Prop} {st st':St}
theorem QI.imp {e:Exit} (h:d9 B N L st st') (hq:QI B N L Q e st'):QI B N L Q e st:=by
 obtain⟨s,h1,h2⟩:=hq;exact⟨s,h.trans h1,h2⟩
theorem pQ (h:d9 B N L st st'): ∀{K:List Kf} {e:Exit},post rd P B N L K (QI B N L Q) e st'→post rd P B N L K (QI B N L Q) e st
 |[],_,hq=>hq.imp h
 | .sq y::K,e,hq=>by
  cases e with
  |normal=>exact xk h hq
  |_=>exact pQ (K:=K) h hq
 | .bl id::K,e,hq=>by
  cases e with
  |exit i=>
   simp only [post]at hq ⊢
   cases hb:Nat.beq i id with
   |true=>rw [hb]at hq;exact pQ (K:=K) h hq
   |false=>rw [hb]at hq;exact pQ (K:=K) h hq
  |_=>exact pQ (K:=K) h hq
 | .lo c n::K,e,hq=>by
  cases e with
  |normal=>exact Td h hq
  |_=>exact pQ (K:=K) h hq
 | .sc::K,e,hq=> ⟨hq.1,pQ (K:=K) h hq.2⟩
def ae5 (rd:Option Nat) (P:Program) (B:Base) (N:Nat) (L:List Nat) (f:Foc) (Q:Exit→St→Prop) (st:St):Prop:=
 match f with
 | .at c K=>jE rd P B N L c (post rd P B N L K (QI B N L Q)) st
 | .fin e=>QI B N L Q e st
 | .bad=>False
def CeS (rd:Option Nat) (P:Program) (B:Base) (N:Nat) (L:List Nat) (x:CE) (K:List Kf) (Q:Exit→St→Prop) (st:St):Prop:=
 match x with
 | .c c=>jE rd P B N L c (post rd P B N L K (QI B N L Q)) st
 | .e e=>post rd P B N L K (QI B N L Q) e st
theorem go_ok: ∀{n:Nat} {x:CE} {K:List Kf},ae5 rd P B N L (go n x K) Q st→CeS rd P B N L x K Q st
 |0,_,_,h=>h.elim
 |n+1, .c c,K,h=>by
  unfold go at h
  split at h
  ·have:=go_ok h;exact uU this
  ·have:=go_ok h;exact JO this
  ·have:=go_ok h;exact Jc this
  ·have:=go_ok h;exact KV this
  ·have:=go_ok h;exact Pm this
  ·have:=go_ok h;exact R8 this
  ·have:=go_ok h;exact U3 this
  ·exact h
 |n+1, .e e,[],h=>h
 |n+1, .e e, .sq y::K,h=>by
  unfold go at h
  cases e with
  |normal=>exact go_ok (n:=n) (x:= .c y) (K:=K) h
  |exit i=>exact go_ok (n:=n) (x:= .e _) (K:=K) h
  |goto l=>exact go_ok (n:=n) (x:= .e _) (K:=K) h
  |ret=>exact go_ok (n:=n) (x:= .e _) (K:=K) h
  |panic c=>exact go_ok (n:=n) (x:= .e _) (K:=K) h
  |outgrown=>exact go_ok (n:=n) (x:= .e _) (K:=K) h
 |n+1, .e e, .bl id::K,h=>by
  unfold go at h
  cases e with
  |exit i=>
   show(bif Nat.beq i id then _ else _)
   simp only at h
   cases hb:Nat.beq i id with
   |true=>rw [hb]at h;exact go_ok (n:=n) (x:= .e _) (K:=K) h
   |false=>rw [hb]at h;exact go_ok (n:=n) (x:= .e _) (K:=K) h
  |normal=>exact go_ok (n:=n) (x:= .e _) (K:=K) h
  |goto l=>exact go_ok (n:=n) (x:= .e _) (K:=K) h
  |ret=>exact go_ok (n:=n) (x:= .e _) (K:=K) h
  |panic c=>exact go_ok (n:=n) (x:= .e _) (K:=K) h
  |outgrown=>exact go_ok (n:=n) (x:= .e _) (K:=K) h
 |n+1, .e e, .lo c m::K,h=>by
  unfold go at h
  cases e with
  |normal=>
   cases m with
   |zero=>exact h.elim
   |succ m=>exact go_ok (n:=n) (x:= .c c) (K:= .lo c m::K) h
  |exit i=>exact go_ok (n:=n) (x:= .e _) (K:=K) h
  |goto l=>exact go_ok (n:=n) (x:= .e _) (K:=K) h
  |ret=>exact go_ok (n:=n) (x:= .e _) (K:=K) h
  |panic c=>exact go_ok (n:=n) (x:= .e _) (K:=K) h
  |outgrown=>exact go_ok (n:=n) (x:= .e _) (K:=K) h
 |n+1, .e e, .sc::K,h=>by
  unfold go at h
  cases e with
  |goto l=>exact h.elim
  |normal=>exact⟨fun _=>Exit.noConfusion,go_ok (n:=n) (x:= .e _) (K:=K) h⟩
  |exit i=>exact⟨fun _=>Exit.noConfusion,go_ok (n:=n) (x:= .e _) (K:=K) h⟩
  |ret=>exact⟨fun _=>Exit.noConfusion,go_ok (n:=n) (x:= .e _) (K:=K) h⟩
  |panic c=>exact⟨fun _=>Exit.noConfusion,go_ok (n:=n) (x:= .e _) (K:=K) h⟩
  |outgrown=>exact⟨fun _=>Exit.noConfusion,go_ok (n:=n) (x:= .e _) (K:=K) h⟩
theorem pF {Q1:Exit→St→Prop} {K2:List Kf} (hq: ∀e st,Q1 e st→post rd P B N L K2 Q e st): ∀{K1:List Kf} {e:Exit} {st:St},post rd P B N L K1 Q1 e st→post rd P B N L (K1++K2) Q e st
 |[],e,st,h=>hq e st h
 | .sq y::K,e,st,h=>by
  cases e with
  |normal=>exact iQ h fun e st hh=>pF hq hh
  |_=>exact pF (K1:=K) hq h
 | .bl id::K,e,st,h=>by
  cases e with
  |exit i=>
   simp only [post,List.cons_append]at h ⊢
   cases hb:Nat.beq i id with
   |true=>rw [hb]at h;exact pF (K1:=K) hq h
   |false=>rw [hb]at h;exact pF (K1:=K) hq h
  |_=>exact pF (K1:=K) hq h
 | .lo c n::K,e,st,h=>by
  cases e with
  |normal=>exact IA (n:=n) (fun e st hh=>pF hq hh) h
  |_=>exact pF (K1:=K) hq h
 | .sc::K,e,st,h=> ⟨h.1,pF (K1:=K) hq h.2⟩
end
inductive Po:Type→Type 1 where
 |fn {R:Type} (T:List (Nat × TI)) (rs:List ResultVar) (res:R→TV) (hout:R→List (Nat × Option Ob)):Po R
 |jn {R β:Type} (K:List Kf) (t:β→St) (o:Po R):Po (Ex β R)
 |jN {β:Type} (t:β→St):Po β
 |lp {R σ β:Type} (b:Nat) (K:List Kf) (S:σ→St) (Sb:β→St) (o:Po R):Po (aM σ (Ex β R))
 |gt {R σ β:Type} (l:Nat) (K:List Kf) (S:σ→St) (Sb:β→St) (o:Po R):Po (aM σ (Ex β R))
 |yl {R:Type} (b:Nat) (r:iG) (res:R→TV) (hout:R→List (Nat × Option Ob)):Po R
section
variable (rd:Option Nat) (P:Program) (B:Base) (N:Nat) (L:List Nat)
def Po.Q:{R:Type}→Po R→R→Exit→St→Prop
 |_, .fn T rs res hout=>fun r e st=>Kw T rs (res r) (hout r) e st
 |_, .jn K t o=>fun r e st=>match r with
  | .brk z=>e= .normal∧st=t z
  | .ret x=>e≠ .normal∧post rd P B N L K (QI B N L (o.Q x)) e st
 |_, .jN t=>fun r e st=>e= .normal∧st=t r
 |_, .lp b K S Sb o=>fun r e st=>match r with
  | .next s=>e= .normal∧st=S s
  | .done (.brk z)=>e= .exit b∧st=Sb z
  | .done (.ret x)=>e≠ .normal∧e≠ .exit b∧post rd P B N L K (QI B N L (o.Q x)) e st
 |_, .gt l K S Sb o=>fun r e st=>match r with
  | .next s=>e= .goto l∧st=S s
  | .done (.brk z)=>e= .normal∧st=Sb z
  | .done (.ret x)=>(∀l',e≠ .goto l')∧e≠ .normal∧post rd P B N L K (QI B N L (o.Q x)) e st
 |_, .yl b rec res hout=>fun r e st=>Dk b rec (res r) (hout r) e st
end
def rsT:List ResultVar→List Nat
 |[]=>[]
 | .tmp t::l=>t::rsT l
 | .cell t _::l=>t::rsT l
def RD:Exit→Bool
 | .normal| .ret=>true
 |_=>false
def Ca:Exit→Bool
 | .normal=>true
 |_=>false
def Rk (b:Nat):Exit→Bool
 | .exit i=>Nat.beq i b
 |_=>false
def FU:Nat:=5000
def isGo:Exit→Bool
 | .goto _=>true
 |_=>false
def WE (l:Nat):Exit→Bool
 | .goto i=>Nat.beq i l
 |_=>false
def La (e:Exit):List Code→Nat→Option Nat
 |[],_=>none
 |c::l,k=>match c,e with
  | .ret, .ret=>some k
  | .exit i, .exit j=>bif Nat.beq i j then some k else La e l (k+1)
  | .goto i, .goto j=>bif Nat.beq i j then some k else La e l (k+1)
  |_,_=>La e l (k+1)
def Za (e:Exit) (l:List Code):Option (Nat × Bool):=
 match e with
 | .normal=>some (0,true)
 |e=>match La e l 0 with|some k=>some (k+2,false)|none=>none
def V6 (L fz:List Nat) (rn:List (Nat × Nat)) (b:Nat) (rec:iG) (res:TV) (hout:List (Nat × Option Ob)) (e:Exit) (st:St):Option CP:=
 match Za e rec.outs with
 |some (s,v)=>match Pz L fz [] (X3 rn (sJ hout)) (Ak st)with
  |some (q,s1)=>match get s1.heap b with
   |some (some (.loop r1 1 sl))=>some (nCk q++((Cb hout (DR b s s1.heap)).1++[(.ob (some (.loop r1 1 sl)), .ob (some (.loop rec 1 sl))),(.hp (Cb hout (DR b s s1.heap)).2, .hp hout),(.tv (vB v), .tv res)]))
   |_=>none
  |none=>none
 |none=>none
def Vt (L fz:List Nat) (rn:List (Nat × Nat)) (T:List (Nat × TI)) (rs:List ResultVar) (res:TV) (hout:List (Nat × Option Ob)) (st:St):Option CP:=
 match Pz L fz (rsT rs) (X3 rn (sJ hout)) (Ak st)with
 |some (e,s1)=>match Np T s1 rs with
  |some ([],l)=>some (nCk e++((OC res (O5 l)).1++((Cb hout s1.heap).1++[(.tv (OC res (O5 l)).2, .tv res),(.hp (Cb hout s1.heap).2, .hp hout)])))
  |_=>none
 |none=>none
def leaf (L fz:List Nat) (rn:List (Nat × Nat)):{R:Type}→Po R→Exit→R→St→Option CP
 |_, .fn T rs res hout=>fun e r st=>bif RD e then Vt L fz rn T rs (res r) (hout r) st else none
 |_, .jn K t o=>fun e r st=>match r with
  | .brk z=>bif Ca e then narrow L fz rn (t z) st else none
  | .ret x=>bif Ca e then none else match go FU (.e e) K with
   | .fin e'=>leaf L fz rn o e' x st
   |_=>none
 |_, .jN t=>fun e r st=>bif Ca e then narrow L fz rn (t r) st else none
 |_, .lp b K S Sb o=>fun e r st=>match r with
  | .next s=>bif Ca e then narrow L fz rn (S s) st else none
  | .done (.brk z)=>bif Rk b e then narrow L fz rn (Sb z) st else none
  | .done (.ret x)=>bif Ca e||Rk b e then none else match go FU (.e e) K with
   | .fin e'=>leaf L fz rn o e' x st
   |_=>none
 |_, .gt l K S Sb o=>fun e r st=>match r with
  | .next s=>bif WE l e then narrow L fz rn (S s) st else none
  | .done (.brk z)=>bif Ca e then narrow L fz rn (Sb z) st else none
  | .done (.ret x)=>bif Ca e||isGo e then none else match go FU (.e e) K with
   | .fin e'=>leaf L fz rn o e' x st
   |_=>none
 |_, .yl b rec res hout=>fun e r st=>V6 L fz rn b rec (res r) (hout r) e st
section
variable {rd:Option Nat} {P:Program} {B:Base} {N:Nat} {L:List Nat}
theorem MI {e:Exit} (h:Ca e=true):e= .normal:=by cases e<;>first|rfl|cases h
theorem Qk {e:Exit} (h:Ca e=false):e≠ .normal:=by rintro rfl;cases h
theorem ZY {b:Nat} {e:Exit} (h:Rk b e=true):e= .exit b:=by
 cases e<;>first|cases h|(rename_i i;exact congrArg Exit.exit (Nat.eq_of_beq_eq_true h))
theorem abV {b:Nat} {e:Exit} (h:Rk b e=false):e≠ .exit b:=by rintro rfl;simp [Rk]at h
theorem ZR {e:Exit} (h:isGo e=false): ∀l,e≠ .goto l:=by rintro l rfl;cases h
theorem XK {l:Nat} {e:Exit} (h:WE l e=true):e= .goto l:=by
 cases e<;>first|cases h|(rename_i i;exact congrArg Exit.goto (Nat.eq_of_beq_eq_true h))
theorem Fg {e:Exit} {l0:List Code}: ∀{l:List Code} {k j:Nat},(∀i c,l[i]? =some c→l0[k+i]? =some c)→La e l k=some j→ ∃c,l0[j]? =some c∧Eu c=true∧e=CB c
 |[],k,j,_,h=>by cases h
 |c::l,k,j,hl,h=>by
  have hn: ∀i c',l[i]? =some c'→l0[k+1+i]? =some c':=fun i c' hc=>by
   have:=hl (i+1) c' (by simpa using hc)
   rwa [show k+(i+1)=k+1+i by omega]at this
  have h0:=hl 0 c rfl
  unfold La at h
  split at h
  ·cases h;exact⟨_,h0,rfl,rfl⟩
  ·rename_i i' j'
   cases hb:Nat.beq i' j' with
   |true=>rw [hb]at h;cases h;have:=Nat.eq_of_beq_eq_true hb;subst this;exact⟨_,h0,rfl,rfl⟩
   |false=>rw [hb]at h;exact Fg hn h
  ·rename_i i' j'
   cases hb:Nat.beq i' j' with
   |true=>rw [hb]at h;cases h;have:=Nat.eq_of_beq_eq_true hb;subst this;exact⟨_,h0,rfl,rfl⟩
   |false=>rw [hb]at h;exact Fg hn h
  ·exact Fg hn h
theorem WM {fz:List Nat} {rn:List (Nat × Nat)} {b:Nat} {rec:iG} {res:TV} {hout:List (Nat × Option Ob)} {e:Exit} {st:St} {c:CP} (h:V6 L fz rn b rec res hout e st=some c) (hc:c.ok):
  QI B N L (Dk b rec res hout) e st:=by
 unfold V6 at h
 split at h
 ·rename_i s v e0
  split at h
  ·rename_i q s1 e1
   split at h
   ·rename_i r1 sl e2
    cases h
    rw [CP.lH,CP.lH]at hc
    have hq:=FZ hc.1
    obtain⟨ts,cs',hf,hcs⟩:=yC e1 hq [] trivial
    obtain⟨h1,h2,h3,_⟩:=hc.2.2
    have h1:=Ck.ob.inj h1
    simp only [Option.some.injEq,Ob.loop.injEq,and_true]at h1
    subst h1
    refine⟨s1,d9.fin _ ts hf hcs,s,v,sl, ?_,e2, ?_, ?_⟩
    ·unfold Za at e0
     split at e0
     ·cases e0;exact .inl ⟨rfl,rfl,rfl⟩
     ·rename_i hne
      split at e0
      ·rename_i k e3
       cases e0
       obtain⟨c,g1,g2,g3⟩:=Fg (l0:=r1.outs) (l:=r1.outs) (k:=0) (fun i c hc=>by simpa using hc) e3
       exact .inr ⟨k,c,g1,g2,g3,rfl,rfl⟩
      ·cases e0
    ·have:=Hr hc.2.1;rwa [Ck.hp.inj h2]at this
    ·exact zu.of (Ck.tv.inj h3)
   ·cases h
  ·cases h
 ·cases h
theorem Vo {fz:List Nat} {rn:List (Nat × Nat)} {T:List (Nat × TI)} {rs:List ResultVar} {res:TV} {hout:List (Nat × Option Ob)} {e:Exit} {st:St} {c:CP} (he:RD e=true) (h:Vt L fz rn T rs res hout st=some c) (hc:c.ok):
  QI B N L (Kw T rs res hout) e st:=by
 unfold Vt at h
 split at h
 ·rename_i q s1 e1
  split at h
  ·rename_i l e2
   cases h
   rw [CP.lH,CP.lH,CP.lH]at hc
   have hq:=FZ hc.1
   obtain⟨ts,cs',hf,hcs⟩:=yC e1 hq [] trivial
   have h1:(OC res (O5 l)).2=res:=Ck.tv.inj hc.2.2.2.1
   have h2:(Cb hout s1.heap).2=hout:=Ck.hp.inj hc.2.2.2.2.1
   refine⟨s1,d9.fin _ ts hf hcs, ?_,⟨[],l,e2,trivial, ?_⟩, ?_⟩
   ·cases e<;>simp [RD]at he<;>simp
   ·have:=R6 hc.2.1;rwa [h1]at this
   ·have:=Hr hc.2.2.1;rwa [h2]at this
  ·cases h
 ·cases h
theorem X9 {fz:List Nat} {rn:List (Nat × Nat)}: ∀{R:Type} {po:Po R} {e:Exit} {r:R} {st:St} {c:CP},leaf L fz rn po e r st=some c→c.ok→QI B N L (po.Q rd P B N L r) e st:=by
 intro R po
 induction po with
 |fn T rs res hout=>
  intro e r st c h hc
  unfold leaf at h
  cases he:RD e with
  |false=>simp [he]at h
  |true=>simp only [he,cond_true]at h;exact Vo he h hc
 |jN t=>
  intro e r st c h hc
  unfold leaf at h
  cases he:Ca e with
  |false=>simp [he]at h
  |true=>simp only [he,cond_true]at h;exact⟨_,tC h hc,MI he,rfl⟩
 |jn K t o ih=>
  intro e r st c h hc
  unfold leaf at h
  cases r with
  |brk z=>
   simp only at h
   cases he:Ca e with
   |false=>simp [he]at h
   |true=>simp only [he,cond_true]at h;exact⟨_,tC h hc,MI he,rfl⟩
  |ret x=>
   simp only at h
   cases he:Ca e with
   |true=>simp [he]at h
   |false=>
    simp only [he,cond_false]at h
    split at h
    ·rename_i e' e1
     have:=ih h hc
     refine⟨st, .refl,Qk he, ?_⟩
     exact go_ok (n:=FU) (x:= .e e) (by rw [e1];exact this)
    ·cases h
 |lp b K S Sb o ih=>
  intro e r st c h hc
  unfold leaf at h
  cases r with
  |next s=>
   simp only at h
   cases he:Ca e with
   |false=>simp [he]at h
   |true=>simp only [he,cond_true]at h;exact⟨_,tC h hc,MI he,rfl⟩
  |done r=>
   cases r with
   |brk z=>
    simp only at h
    cases he:Rk b e with
    |false=>simp [he]at h
    |true=>simp only [he,cond_true]at h;exact⟨_,tC h hc,ZY he,rfl⟩
   |ret x=>
    simp only at h
    cases he:(Ca e||Rk b e)with
    |true=>simp [he]at h
    |false=>
     simp only [he,cond_false]at h
     rw [Bool.or_eq_false_iff]at he
     split at h
     ·rename_i e' e1
      have:=ih h hc
      refine⟨st, .refl,Qk he.1,abV he.2, ?_⟩
      exact go_ok (n:=FU) (x:= .e e) (by rw [e1];exact this)
     ·cases h
 |gt b K S Sb o ih=>
  intro e r st c h hc
  unfold leaf at h
  cases r with
  |next s=>
   simp only at h
   cases he:WE b e with
   |false=>simp [he]at h
   |true=>simp only [he,cond_true]at h;exact⟨_,tC h hc,XK he,rfl⟩
  |done r=>
   cases r with
   |brk z=>
    simp only at h
    cases he:Ca e with
    |false=>simp [he]at h
    |true=>simp only [he,cond_true]at h;exact⟨_,tC h hc,MI he,rfl⟩
   |ret x=>
    simp only at h
    cases he:(Ca e||isGo e)with
    |true=>simp [he]at h
    |false=>
     simp only [he,cond_false]at h
     rw [Bool.or_eq_false_iff]at he
     split at h
     ·rename_i e' e1
      have:=ih h hc
      refine⟨st, .refl,ZR he.2,Qk he.1, ?_⟩
      exact go_ok (n:=FU) (x:= .e e) (by rw [e1];exact this)
     ·cases h
 |yl b rec res hout=>
  intro e r st c h hc
  exact WM h hc
end
def fact (Γ:List Prop) (j:Nat):Prop:=match Γ,j with
 |[],_=>True
 |p::_,0=>p
 |_::l,j+1=>fact l j
theorem vw: ∀{Γ:List Prop} {j:Nat},All Γ→fact Γ j
 |[],_,_=>trivial
 |_::_,0,h=>h.1
 |_::_,j+1,h=>vw (j:=j) h.2
def csP (Γ:List Prop):Cs→Prop
 | .u j=>fact Γ j
 | .k j=>fact Γ j
 | .pf x=>x.p
 | .dv _ x=>x.b
 | .dk _ x=>x.b
 | .m _ _ b _=>b
def mCk (Γ:List Prop):List Nat→List Prop→Option CP
 |[],[]=>some []
 |j::js,a::as=>match mCk Γ js as with|some l=>some ((.p (fact Γ j), .p a)::l)|none=>none
 |_,_=>none
theorem Ve {Γ:List Prop} (hΓ:All Γ): ∀{js:List Nat} {as:List Prop} {l:CP},mCk Γ js as=some l→l.ok→All as
 |[],[],_,_,_=>trivial
 |j::js,a::as,l,h,hl=>by
  unfold mCk at h
  split at h
  ·rename_i e;cases h;exact⟨Ck.p.inj hl.1 ▸ vw hΓ,Ve hΓ e hl.2⟩
  ·cases h
 |[],_::_,_,h,_=>by cases h
 |_::_,[],_,h,_=>by cases h
def csE (Γ:List Prop):Cs→CP
 | .dv j x=>[(.p (fact Γ j), .p x.a)]
 | .dk j x=>[(.p (fact Γ j), .p x.a)]
 | .m js a _ _=>match mCk Γ js a with|some l=>l|none=>[(.b true, .b false)]
 |_=>[]
def csW:Cs→Bool
 | .u _=>true
 | .dv _ _=>true
 | .m _ _ _ _=>true
 |_=>false
theorem Md {Γ:List Prop} (hΓ:All Γ) {c:Cs} (h:CP.ok (csE Γ c)):csP Γ c:=by
 cases c with
 |u j=>exact vw hΓ
 |k j=>exact vw hΓ
 |pf x=>exact x.h
 |dv j x=>exact x.h (Ck.p.inj h.1 ▸ vw hΓ)
 |dk j x=>exact x.h (Ck.p.inj h.1 ▸ vw hΓ)
 |m js a b hb=>
  simp only [csE]at h
  split at h
  ·rename_i e;exact hb (Ve hΓ e h)
  ·exact absurd (Ck.b.inj h.1) (by simp)
def Ni (Γ:List Prop) (w:Prop→Prop):List Prop→List Cs→Option (CP × List Cs)
 |[],cs=>some ([],cs)
 |p::ps,c::cs=>match Ni Γ w ps cs with
  |some (l,r)=>some ((.p (bif csW c then w p else p), .p (csP Γ c))::(csE Γ c++l),r)
  |none=>none
 |_::_,[]=>none
def gPb (yb:Nat→Bool):List (Nat × Bool)→Bool
 |[]=>true
 |(j,w)::g=>(yb j==w) && gPb yb g
theorem Nn {yb:Nat→Bool}: ∀{g:List (Nat × Bool)},gPb yb g=true↔gP yb g
 |[]=>by simp [gPb,gP]
 |(j,w)::g=>by simp [gPb,gP,Nn]
def wrG (yb:Nat→Bool) (g:List (Nat × Bool)) (p:Prop):Prop:=match g with
 |[]=>p
 |g=>gB (g.map fun q=>(yb q.1,q.2))=true→p
theorem aaW {yb:Nat→Bool} {g:List (Nat × Bool)} (p:Prop) (h:p):wrG yb g p:=by
 cases g with
 |nil=>exact h
 |cons x g=>exact fun _=>h
theorem aaL {yb:Nat→Bool} {g:List (Nat × Bool)}: ∀{l:List Prop},All (l.map (wrG yb g))→All (Cu yb g l):=by
 intro l h
 cases g with
 |nil=>have h':All (l.map id):=h;simpa [Cu]using h'
 |cons x g=>
  cases l with
  |nil=>trivial
  |cons p l=>
   refine⟨fun hg=> ?_,trivial⟩
   have hb:=Zk hg
   have: ∀l:List Prop,All (l.map (wrG yb (x::g)))→All l:=fun l=>by
    induction l with
    |nil=>exact fun _=>trivial
    |cons q l ih=>exact fun hh=> ⟨hh.1 hb,ih hh.2⟩
   exact this _ h
theorem Lv {Γ:List Prop} (hΓ:All Γ) {w:Prop→Prop} (hw: ∀p,p→w p): ∀{ps:List Prop} {cs r:List Cs} {l:CP},Ni Γ w ps cs=some (l,r)→l.ok→All (ps.map w)
 |[],_,_,_,_,_=>trivial
 |p::ps,[],_,_,h,_=>by cases h
 |p::ps,c::cs,r,l,h,hl=>by
  unfold Ni at h
  split at h
  ·rename_i l' r' e
   cases h
   obtain⟨h1,h2⟩:=hl
   rw [CP.lH]at h2
   refine⟨?_,Lv hΓ hw e h2.2⟩
   have h3:=Md hΓ h2.1
   rw [←Ck.p.inj h1]at h3
   cases hc:csW c with
   |true=>rw [hc]at h3;exact h3
   |false=>rw [hc]at h3;exact hw _ h3
  ·cases h
def YF (Γ:List Prop) (ov:List (Nat × Bool × Nat)) (j:Nat) (a v:Bool):CP:=
 match get ov j with
 |some (w,k)=>[(.p (a=w), .p (fact Γ k)),(.b v, .b w)]
 |none=>[(.b a, .b v)]
theorem RU {Γ:List Prop} (hΓ:All Γ) {ov:List (Nat × Bool × Nat)} {j:Nat} {a v:Bool} (h:(YF Γ ov j a v).ok):a=v:=by
 unfold YF at h
 split at h
 ·have:a=_:=Ck.p.inj h.1 ▸ vw hΓ
  rw [this];exact(Ck.b.inj h.2.1).symm
 ·exact Ck.b.inj h.1
def xD (yb:Nat→Bool) (ov:List (Nat × Bool × Nat)) (Γ:List Prop):List Ri→List Cs→Option CP
 |[],[]=>some []
 |[],_::_=>none
 | .eb j a v::its,cs=>match xD yb ov Γ its cs with|some l=>some (YF Γ ov j a v++l)|none=>none
 | .eg _ j a v::its,cs=>match xD yb ov Γ its cs with|some l=>some (YF Γ ov j a v++l)|none=>none
 | .cs g ps::its,cs=>match Ni Γ (wrG yb g) ps cs with
  |some (l1,cs')=>match xD yb ov Γ its cs' with|some l=>some (l1++l)|none=>none
  |none=>none
 | .nd g::its,cs=>match xD yb ov Γ its cs with|some l=>some ((.b (gPb yb g), .b true)::l)|none=>none
 | .ng g::its,cs=>match xD yb ov Γ its cs with|some l=>some ((.b (gPb yb g), .b false)::l)|none=>none
theorem UM {yb:Nat→Bool} {g:List (Nat × Bool)} {p:Prop} (h:p):All (Cu yb g [p]):=by
 cases g with
 |nil=>exact⟨h,trivial⟩
 |cons x g=>exact⟨fun _=> ⟨h,trivial⟩,trivial⟩
theorem Pg {yb:Nat→Bool} {ov:List (Nat × Bool × Nat)} {Γ:List Prop} (hΓ:All Γ): ∀{its:List Ri} {cs:List Cs} {l:CP},xD yb ov Γ its cs=some l→l.ok→ ∀it∈its,All (it.P yb)
 |[],_,_,_,_=>fun _ h=>by simp at h
 |it::its,cs,l,h,hl=>by
  have key: ∃cs' l',xD yb ov Γ its cs'=some l'∧l'.ok∧All (it.P yb):=by
   cases it with
   |eb j a v=>
    unfold xD at h;split at h
    ·rename_i l' e;cases h;rw [CP.lH]at hl;exact⟨_,_,e,hl.2,RU hΓ hl.1,trivial⟩
    ·cases h
   |eg g j a v=>
    unfold xD at h;split at h
    ·rename_i l' e;cases h;rw [CP.lH]at hl;exact⟨_,_,e,hl.2,UM (RU hΓ hl.1)⟩
    ·cases h
   |cs g ps=>
    unfold xD at h;split at h
    ·rename_i l1 cs' e0
     split at h
     ·rename_i l' e;cases h;rw [CP.lH]at hl;exact⟨_,_,e,hl.2,aaL (Lv hΓ aaW e0 hl.1)⟩
     ·cases h
    ·cases h
   |nd g=>
    unfold xD at h;split at h
    ·rename_i l' e;cases h;exact⟨_,_,e,hl.2,Nn.1 (Ck.b.inj hl.1),trivial⟩
    ·cases h
   |ng g=>
    unfold xD at h;split at h
    ·rename_i l' e;cases h;exact⟨_,_,e,hl.2,(fun hg=>by have:=Nn.2 hg;rw [Ck.b.inj hl.1]at this;cases this),trivial⟩
    ·cases h
  obtain⟨cs',l',h1,h2,h3⟩:=key
  intro x hx
  rcases List.mem_cons.1 hx with rfl|hx
  ·exact h3
  ·exact Pg hΓ h1 h2 x hx
def ab1:List Ri→Nat
 |[]=>0
 | .cs _ ps::l=>ps.length+ab1 l
 |_::l=>ab1 l
def dfl:Nat→List Cs
 |0=>[]
 |n+1=> .u n::dfl n
def aeD (its:List Ri):List Cs→List Cs
 |[]=>dfl (ab1 its)
 |l=>l
structure IS where
 act:St→List Ck
 want:St→List Ck
 nxt:St→St
 ok: ∀B N L st,act st=want st→d9 B N L st (nxt st)
structure ISp where
 p:Prop
 act:St→List Ck
 want:St→List Ck
 nxt:St→St
 ok:p→ ∀B N L st,act st=want st→d9 B N L st (nxt st)
def Jv:List Ck→List Ck→Option CP
 |[],[]=>some []
 |x::xs,y::ys=>match Jv xs ys with|some l=>some ((x,y)::l)|none=>none
 |_,_=>none
theorem I4: ∀{l m:List Ck} {c:CP},Jv l m=some c→c.ok→l=m
 |[],[],_,_,_=>rfl
 |x::xs,y::ys,c,h,hc=>by
  unfold Jv at h
  split at h
  ·rename_i l e;cases h;rw [show x=y from hc.1,I4 e hc.2]
  ·cases h
 |[],_::_,_,h,_=>by cases h
 |_::_,[],_,h,_=>by cases h
structure Tg (β:Type) where
 ks:List Nat
 kh:List Nat
 s:β→List (Nat × TV)
 h:β→List (Nat × Option Ob)
def Nq {α:Type} (l:List (Nat × α)):List Nat→List (Nat × α)
 |[]=>[]
 |k::ks=>match get l k with|some x=>(k,x)::Nq l ks|none=>Nq l ks
def Tg.at {β:Type} (t:Tg β) (st:St) (z:β):St:=⟨t.s z++Nq st.slots t.ks,t.h z++Nq st.heap t.kh⟩
inductive Sc:Type→Type 1 where
 |en {R:Type} (r:R) (fz:List Nat) (rn:List (Nat × Nat)):Sc R
 |no {R:Type}:Sc R
 |rg {R:Type} (x:RX) (cs:List Cs) (k:Sc R):Sc R
 |bd {R T:Type} (o:Option T) (q:T→Prop) (h: ∀y,o=some y→q y) (an:T→List (Nat × uH)) (k:T→Sc R):Sc R
 |as {R:Type} (c:Prop) (d:Decidable c) (l:List Prop) (h:c→All l) (k:Sc R):Sc R
 |it {R:Type} (a b:Sc R):Sc R
 |tf {R:Type} (v:Bool) (c:List Cs) (k:Sc R):Sc R
 |fk {R:Type} (b:Bool) (x y:Sc R):Sc R
 |im {R:Type} (s:IS) (k:Sc R):Sc R
 |wi {R:Type} (j:Nat) (s:ISp) (k:Sc R):Sc R
 |fz {R:Type} (l:List Nat) (k:Sc R):Sc R
 |ul {R:Type} (n:Nat) (k:Sc R):Sc R
 |ss {R:Type} (k:Sc R):Sc R
 |sp {R σ β:Type} (s0:σ) (t:Tg σ) (u:Tg β) (a:Sc Unit) (body:σ→Sc (aM σ (Ex β R))) (k:β→Sc R):Sc R
 |rf {R:Type} (lb:Nat) (sl:List Nat) (outs:List Code) (w:Option Nat) (jf:Nat) (c:List Cs) (k:Sc R):Sc R
 |jn {R β:Type} (d:Nat) (t:Tg β) (a:Sc (Ex β R)) (k:β→Sc R):Sc R
 |jN {R β:Type} (d:Nat) (t:Tg β) (a:Sc β) (k:β→Sc R):Sc R
 |lp {R σ β:Type} (s0:σ) (fz:List Nat) (rn:List (Nat × Nat)) (t:Tg σ) (u:Tg β) (body:σ→Sc (aM σ (Ex β R))) (k:β→Sc R):Sc R
inductive Tr:Type→Type 1 where
 |bad {R:Type} (m:Nat):Tr R
 |no {R:Type}:Tr R
 |en {R:Type} (r:R):Tr R
 |ck {R:Type} (c:CP) (t:Tr R):Tr R
 |bd {R T:Type} (o:Option T) (k:T→Tr R):Tr R
 |as {R:Type} (c:Prop) (d:Decidable c) (k:Tr R):Tr R
 |it {R:Type} (b:Bool) (x y:Tr R):Tr R
 |jn {R β:Type} (a:Tr (Ex β R)) (k:β→Tr R):Tr R
 |jN {R β:Type} (a:Tr β) (k:β→Tr R):Tr R
 |lp {R σ β:Type} (s0:σ) (body:σ→Tr (aM σ (Ex β R))) (k:β→Tr R):Tr R
 |sp {R σ β:Type} (s0:σ) (a:Tr Unit) (body:σ→Tr (aM σ (Ex β R))) (k:β→Tr R):Tr R
def Tr.ok:{R:Type}→Tr R→Prop
 |_, .bad _=>False
 |_, .no=>True
 |_, .en _=>True
 |_, .ck c t=>c.ok∧t.ok
 |_, .bd _ k=> ∀y,(k y).ok
 |_, .as _ _ k=>k.ok
 |_, .it _ x y=>x.ok∧y.ok
 |_, .jn a k=>a.ok∧ ∀z,(k z).ok
 |_, .jN a k=>a.ok∧ ∀z,(k z).ok
 |_, .lp _ body k=>(∀s,(body s).ok)∧ ∀z,(k z).ok
 |_, .sp _ a body k=>a.ok∧(∀s,(body s).ok)∧ ∀z,(k z).ok
def Tr.den:{R:Type}→Tr R→Option R
 |_, .bad _=>none
 |_, .no=>none
 |_, .en r=>some r
 |_, .ck _ t=>t.den
 |_, .bd o k=>Option.bind o fun y=>(k y).den
 |_, .as c d k=> @bn _ c d k.den
 |_, .it b x y=>bif b then x.den else y.den
 |_, .jn a k=>Option.bind a.den fun o=>match o with| .ret v=>some v| .brk z=>(k z).den
 |_, .jN a k=>Option.bind a.den fun z=>(k z).den
 |_, .lp s0 body k=>Option.bind (ay (fun s=>(body s).den) FUEL s0) fun o=>match o with| .ret v=>some v| .brk z=>(k z).den
 |_, .sp s0 a body k=>Option.bind a.den fun _=>Option.bind (ay (fun s=>(body s).den) FUEL s0) fun o=>match o with| .ret v=>some v| .brk z=>(k z).den
inductive Sd:Type 1 where
 |bad (b:Bool)
 |nil
 |ck (x:Ck) (t:Sd)
 |fn {T:Type} (f:T→Sd)
 |two (x y:Sd)
def CP.side (b:Bool):CP→Sd→Sd
 |[],t=>t
 |p::l,t=> .ck (bif b then p.1 else p.2) (CP.side b l t)
def Tr.side (b:Bool):{R:Type}→Tr R→Sd
 |_, .bad _=> .bad b
 |_, .no=> .nil
 |_, .en _=> .nil
 |_, .ck c t=>c.side b (t.side b)
 |_, .bd _ k=> .fn fun y=>(k y).side b
 |_, .as _ _ k=>k.side b
 |_, .it _ x y=> .two (x.side b) (y.side b)
 |_, .jn a k=> .two (a.side b) (.fn fun z=>(k z).side b)
 |_, .jN a k=> .two (a.side b) (.fn fun z=>(k z).side b)
 |_, .lp _ body k=> .two (.fn fun s=>(body s).side b) (.fn fun z=>(k z).side b)
 |_, .sp _ a body k=> .two (a.side b) (.two (.fn fun s=>(body s).side b) (.fn fun z=>(k z).side b))
theorem CP.BF: ∀{c:CP} {t t':Sd},c.side true t=c.side false t'→c.ok∧t=t'
 |[],_,_,h=> ⟨trivial,h⟩
 |p::l,t,t',h=>by
  simp only [CP.side,cond_true,cond_false,Sd.ck.injEq]at h
  have:=CP.BF h.2
  exact⟨⟨h.1,this.1⟩,this.2⟩
theorem Sd.Dz {T:Type} {f g:T→Sd} (h:Sd.fn f=Sd.fn g): ∀y,f y=g y:=by
 simp only [Sd.fn.injEq,heq_eq_eq,true_and]at h
 exact fun y=>congrFun h y
theorem Tr.BF: ∀{R:Type} {t:Tr R},t.side true=t.side false→t.ok:=by
 intro R t
 induction t with
 |bad _=>intro h;simp [Tr.side]at h
 |no=>intro _;trivial
 |en _=>intro _;trivial
 |ck c t ih=>intro h;have:=CP.BF h;exact⟨this.1,ih this.2⟩
 |bd o k ih=>intro h y;exact ih y (Sd.Dz h y)
 |as c d k ih=>intro h;exact ih h
 |it b x y ihx ihy=>intro h;simp only [Tr.side,Sd.two.injEq]at h;exact⟨ihx h.1,ihy h.2⟩
 |jn a k iha ihk=>intro h;simp only [Tr.side,Sd.two.injEq]at h;exact⟨iha h.1,fun z=>ihk z (Sd.Dz h.2 z)⟩
 |jN a k iha ihk=>intro h;simp only [Tr.side,Sd.two.injEq]at h;exact⟨iha h.1,fun z=>ihk z (Sd.Dz h.2 z)⟩
 |lp s0 body k ihb ihk=>intro h;simp only [Tr.side,Sd.two.injEq]at h;exact⟨fun s=>ihb s (Sd.Dz h.1 s),fun z=>ihk z (Sd.Dz h.2 z)⟩
 |sp s0 a body k iha ihb ihk=>intro h;simp only [Tr.side,Sd.two.injEq]at h;exact⟨iha h.1,fun s=>ihb s (Sd.Dz h.2.1 s),fun z=>ihk z (Sd.Dz h.2.2 z)⟩
def bOf:Option TV→Option Bool
 |some (.v (.one (.d (.bool b))))=>some b
 |_=>none
theorem Ou {x:Option TV} {b:Bool} (h:bOf x=some b):x=some (.v (.one (.d (.bool b)))):=by
 unfold bOf at h
 split at h
 ·cases h;rfl
 ·cases h
section
variable (q:Bool) (P:Program) (T:List (Nat × TI)) (N:Nat) (L:List Nat)
def U8 (Γ:List Prop) (outs:List Code) (stt:Nat):Option Nat→List Cs→Option (CP × Exit)
 |none,[]=>some ([(.n stt, .n 0)], .normal)
 |none,c::_=>some ((.p (Nat.beq stt 0=true), .p (csP Γ c))::csE Γ c, .normal)
 |some k,cs=>match outs[k]? with
  |some o=>bif Eu o then(match cs with
   |[]=>some ([(.n stt, .n (k+2))],CB o)
   |c::_=>some ((.p (Nat.beq stt (k+2)=true), .p (csP Γ c))::csE Γ c,CB o))else none
  |none=>none
def rfG (st:St) (g:Operand):Option (TV × FuncId × List CV × List CV):=
 match BZ st g with
 |some gv=>match Xk gv with|some (f,c1,c2)=>some (gv,f,c1,c2)|none=>none
 |none=>none
def isNone {α:Type}:Option α→Bool
 |none=>true
 |_=>false
def Ns (N:Nat) (lb:Nat) (sl:List Nat) (outs:List Code) (w:Option Nat) (jf:Nat) (c:List Cs) (g:Operand) (ps:Array Nat) (assign body:Code) (st:St) (Γ:List Prop) (an:List (Nat × uH)):Option (CP × Exit × St):=
 match rfG st g with
 |some (_,f,c1,c2)=>
  match get an 0 with
  |some (.call ids res hout)=>
   let hp:=(lb,some (.loop ⟨ps.toList,assign,body,N,outs⟩ 0 (Nq st.slots sl)))::st.heap
   match dH ids (ids.map (bU hp)),get hout lb with
   |some hin,some (some (.loop r' stt _))=>match U8 Γ outs stt w c with
    |some (ck,e)=>some ((.b (isNone (get st.heap lb)), .b true)::
      (.b (mZ ((c1++CV.yl lb::c2).flatMap CV.eX) ids && mZ (jJ (ids.map (bU hp))) ids && kJ ids (hout.map (·.1)) ((hout.map (·.1)).map (bU hp))), .b true)::
      (.p (Fn P f ((c1++CV.yl lb::c2).map .one) hin res hout), .p (fact Γ jf))::(.co r'.outs, .co outs)::ck,e,⟨st.slots,(lb,none)::(hout++(ids.map (fun i=>(i,none))++st.heap))⟩)
    |none=>none
   |_,_=>none
  |_=>none
 |none=>none
def tr:{R:Type}→Sc R→Foc→St→List Prop→List (Nat × uH)→Po R→Tr R
 |_, .en r fz rn=>fun f st _ _ po=>match f with
  | .fin e=>match leaf L fz rn po e r st with|some c=> .ck c (.en r)|none=> .bad 1
  |_=> .bad 2
 |_, .no=>fun _ _ _ _ _=> .no
 |_, .rg x cs k=>fun f st Γ an po=>match f with
  | .at (.region _ ops dr) K=>match YQ (GX P) T ops dr N L x an st with
   |some R=>match xD R.yb x.ov Γ R.its (aeD R.its cs)with
    |some c=> .ck ((.b R.ok, .b true)::(nCk R.eq++c)) (tr k (go FU (.e .normal) K) R.st Γ [] po)
    |none=> .bad 3
   |none=> .bad (4000+afS (GX P) T ops.toList (fun _=>false) (ovB x.ov) (Ua x an) (Xr x.fr) N (List.range ops.size) (Ak st))
  |_=> .bad 5
 |_, .bd o q _ an' k=>fun f st Γ an po=> .bd o fun y=>tr (k y) f st (q y::Γ) (an' y++an) po
 |_, .as c d l _ k=>fun f st Γ an po=> .as c d (tr k f st (l++Γ) an po)
 |_, .it a b=>fun f st Γ an po=>match f with
  | .at (.cond c x y) K=>match bOf (BZ st c)with
   |some v=> .it v (tr a (go FU (.c x) K) st ((v=true)::Γ) an po) (tr b (go FU (.c y) K) st ((v=false)::Γ) an po)
   |none=> .bad 6
  |_=> .bad 7
 |_, .tf v cs k=>fun f st Γ an po=>match f with
  | .at (.cond c x y) K=>match bOf (BZ st c)with
   |some w=> .ck (match cs with|[]=>[(.b w, .b v)]|j::_=>(.p (w=v), .p (csP Γ j))::csE Γ j) (tr k (go FU (.c (bif v then x else y)) K) st Γ an po)
   |none=> .bad 8
  |_=> .bad 9
 |_, .fk v a b=>fun f st Γ an po=> .it v (tr a f st ((v=true)::Γ) an po) (tr b f st ((v=false)::Γ) an po)
 |_, .im s k=>fun f st Γ an po=>match Jv (s.act st) (s.want st)with
  |some c=> .ck c (tr k f (s.nxt st) Γ an po)
  |none=> .bad 10
 |_, .wi j s k=>fun f st Γ an po=>match Jv (s.act st) (s.want st)with
  |some c=> .ck ((.p (fact Γ j), .p s.p)::c) (tr k f (s.nxt st) Γ an po)
  |none=> .bad 18
 |_, .ul n k=>fun f st Γ an po=>match f with
  | .at (.loop c) K=>tr k (go FU (.c c) (.lo c n::K)) st Γ an po
  |_=> .bad 19
 |_, .ss k=>fun f st Γ an po=>match f with
  | .at (.scope c) K=>tr k (go FU (.c c) (.sc::K)) st Γ an po
  |_=> .bad 20
 |_, .sp s0 t u a body k=>fun f st Γ an po=>match f with
  | .at (.scope (.seq x (.seq (.label l) y))) K=>match findLabel x l with
   |none=> .sp s0 (tr a (go FU (.c x) []) st Γ an (.jN fun _=>t.at st s0)) (fun s=>tr (body s) (go FU (.c y) []) (t.at st s) Γ [] (.gt l K (t.at st) (u.at st) po)) fun z=>tr (k z) (go FU (.e .normal) K) (u.at st z) Γ [] po
   |some _=> .bad 21
  |_=> .bad 22
 |_, .rf lb sl outs w jf c k=>fun f st Γ an po=>match q,f with
  |true, .at (.rangeFunc g ps assign body) K=>match Ns P N lb sl outs w jf c g ps assign body st Γ an with
   |some (ck,e,st')=> .ck ck (tr k (go FU (.e e) K) st' Γ [] po)
   |none=> .bad 23
  |_,_=> .bad 24
 |_, .fz l k=>fun f st Γ an po=>match Vj L l (Gv (sJ st.slots) []) (Gv (sJ st.heap) []) (Ak st)with
  |some (e,s1)=> .ck (nCk e) (tr k f s1 Γ an po)
  |none=> .bad 11
 |_, .jn d t a k=>fun f st Γ an po=>match f with
  | .at c K=>match K.drop d with
   | .sq y::K2=> .jn (tr a (.at c (K.take d)) st Γ an (.jn K2 (t.at st) po)) fun z=>tr (k z) (go FU (.c y) K2) (t.at st z) Γ [] po
   |_=> .bad 12
  |_=> .bad 13
 |_, .jN d t a k=>fun f st Γ an po=>match f with
  | .at c K=>match K.drop d with
   | .sq y::K2=> .jN (tr a (.at c (K.take d)) st Γ an (.jN (t.at st))) fun z=>tr (k z) (go FU (.c y) K2) (t.at st z) Γ [] po
   |_=> .bad 14
  |_=> .bad 15
 |_, .lp s0 fz rn t u body k=>fun f st Γ an po=>match f with
  | .at (.loop c) (.bl b::K2)=>match narrow L fz rn (t.at st s0) st with
   |some ck=> .ck ck (.lp s0 (fun s=>tr (body s) (go FU (.c c) []) (t.at st s) Γ [] (.lp b K2 (t.at st) (u.at st) po)) fun z=>tr (k z) (go FU (.e .normal) K2) (u.at st z) Γ [] po)
   |none=> .bad 16
  |_=> .bad 17
end
section
variable {rd:Option Nat} {q:Bool} {P:Program} {B:Base} {N:Nat} {L:List Nat} {T:List (Nat × TI)}
theorem JM {α:Type} {l:List (Nat × α)}: ∀{ks:List Nat},∀p∈Nq l ks,get l p.1=some p.2
 |[],p,h=>by simp [Nq]at h
 |k::ks,p,h=>by
  unfold Nq at h
  split at h
  ·rename_i x e
   rcases List.mem_cons.1 h with rfl|h
   ·exact e
   ·exact JM p h
  ·exact JM p h
theorem Ws {Γ:List Prop} (hΓ:All Γ) {outs:List Code} {stt:Nat} {w:Option Nat} {cs:List Cs} {ck:CP} {e:Exit} (h:U8 Γ outs stt w cs=some (ck,e)) (hc:ck.ok):Kh outs stt e:=by
 unfold U8 at h
 split at h
 ·cases h;exact .inl ⟨Ck.n.inj hc.1,rfl⟩
 ·cases h
  obtain⟨h1,h2⟩:=hc
  have:=Md hΓ h2
  rw [←Ck.p.inj h1]at this
  exact .inl ⟨Nat.eq_of_beq_eq_true this,rfl⟩
 ·rename_i k
  split at h
  ·rename_i o e1
   cases ho:Eu o with
   |false=>rw [ho]at h;cases h
   |true=>
    rw [ho]at h
    simp only [cond_true]at h
    split at h
    ·cases h;exact .inr ⟨k,o,Ck.n.inj hc.1,e1,ho,rfl⟩
    ·cases h
     obtain⟨h1,h2⟩:=hc
     have:=Md hΓ h2
     rw [←Ck.p.inj h1]at this
     exact .inr ⟨k,o,Nat.eq_of_beq_eq_true this,e1,ho,rfl⟩
  ·cases h
theorem Ug {lb:Nat} {sl:List Nat} {outs:List Code} {w:Option Nat} {jf:Nat} {c:List Cs} {g:Operand} {ps:Array Nat} {assign body:Code} {st st':St} {Γ:List Prop} {an:List (Nat × uH)} {ck:CP} {e:Exit} {Q:Exit→St→Prop} (hΓ:All Γ)
  (h:Ns P N lb sl outs w jf c g ps assign body st Γ an=some (ck,e,st')) (hc:ck.ok) (hQ:Q e st'):jE none P B N L (.rangeFunc g ps assign body) Q st:=by
 unfold Ns at h
 split at h
 ·rename_i gv f c1 c2 e0
  unfold rfG at e0
  split at e0
  ·rename_i gv' hg
   split at e0
   ·rename_i f' c1' c2' hf
    cases e0
    split at h
    ·rename_i ids res hout _
     simp only at h
     split at h
     ·rename_i hin r' stt sl' h1 h2
      split at h
      ·rename_i ck' e' h3
       cases h
       obtain⟨k1,k2,k3,k4,k5⟩:=hc
       have hfn:=vw (j:=jf) hΓ
       rw [←Ck.p.inj k3]at hfn
       have hn:get st.heap lb=none:=by
        have:=Ck.b.inj k1
        cases hh:get st.heap lb with
        |none=>rfl
        |some x=>rw [hh]at this;cases this
       have hp:ps=ps.toList.toArray:=by simp
       rw [hp]
       exact Cn lb (Nq st.slots sl) outs ids res hout hg hf hn (fun p hp=>JM p hp) h1 (Ck.b.inj k2) hfn h2 (Ck.co.inj k4) (Ws hΓ h3 k5) hQ
      ·cases h
     ·cases h
    ·cases h
   ·cases e0
  ·cases e0
 ·cases h
theorem Va (hrd:q=true→rd=none) (hT:su P T) (hm:P.follows .mixedOrders=true): ∀{R:Type} (s:Sc R) {f:Foc} {st:St} {Γ:List Prop} {an:List (Nat × uH)} {po:Po R} {r:R},
  (tr q P T N L s f st Γ an po).ok→All Γ→(tr q P T N L s f st Γ an po).den=some r→ae5 rd P B N L f (po.Q rd P B N L r) st:=by
 intro R s
 induction s with
 |en r fz rn=>
  intro f st Γ an po r' hk hΓ hd
  unfold tr at hk hd
  cases f with
  |fin e=>
   simp only at hk hd
   cases hl:leaf L fz rn po e r st with
   |none=>rw [hl]at hk;exact hk.elim
   |some c=>
    rw [hl]at hk hd
    cases hd
    exact X9 hl hk.1
  | «at» c K=>exact hk.elim
  |bad=>exact hk.elim
 |no=>intro f st Γ an po r' hk hΓ hd;cases hd
 |rg x cs k ih=>
  intro f st Γ an po r' hk hΓ hd
  unfold tr at hk hd
  cases f with
  |fin e=>exact hk.elim
  |bad=>exact hk.elim
  | «at» c K=>
   cases c with
   |region id ops dr=>
    simp only at hk hd
    cases hR:YQ (GX P) T ops dr N L x an st with
    |none=>rw [hR]at hk;exact hk.elim
    |some R=>
     rw [hR]at hk hd
     simp only at hk hd
     cases hc:xD R.yb x.ov Γ R.its (aeD R.its cs)with
     |none=>rw [hc]at hk;exact hk.elim
     |some c=>
      rw [hc]at hk hd
      simp only at hk hd
      obtain⟨⟨h1,h2⟩,hk⟩:=hk
      rw [CP.lH]at h2
      refine V8 hT hm hR (Ck.b.inj h1) (FZ h2.1) (Pg hΓ hc h2.2) ?_
      exact go_ok (n:=FU) (x:= .e .normal) (ih hk hΓ hd)
   |_=>exact hk.elim
 |bd o q h an' k ih=>
  intro f st Γ an po r' hk hΓ hd
  unfold tr at hk hd
  cases o with
  |none=>cases hd
  |some y=>exact ih y (hk y) ⟨h y rfl,hΓ⟩ hd
 |as c d l hl k ih=>
  intro f st Γ an po r' hk hΓ hd
  unfold tr at hk hd
  exact Px (c:=c) hd fun hc hd=>ih hk (bK.2 ⟨hl hc,hΓ⟩) hd
 |it a b iha ihb=>
  intro f st Γ an po r' hk hΓ hd
  unfold tr at hk hd
  cases f with
  |fin e=>exact hk.elim
  |bad=>exact hk.elim
  | «at» c K=>
   cases c with
   |cond c x y=>
    simp only at hk hd
    cases hv:bOf (BZ st c)with
    |none=>rw [hv]at hk;exact hk.elim
    |some v=>
     rw [hv]at hk hd
     simp only at hk hd
     refine yU v (Ou hv) (fun e=> ?_) fun e=> ?_
     ·refine go_ok (n:=FU) (x:= .c x) (iha hk.1 ⟨e,hΓ⟩ ?_)
      have hd':(bif v then _ else _)=some r':=hd
      rw [e]at hd';subst e;exact hd'
     ·refine go_ok (n:=FU) (x:= .c y) (ihb hk.2 ⟨e,hΓ⟩ ?_)
      have hd':(bif v then _ else _)=some r':=hd
      rw [e]at hd';subst e;exact hd'
   |_=>exact hk.elim
 |tf v cs k ih=>
  intro f st Γ an po r' hk hΓ hd
  unfold tr at hk hd
  cases f with
  |fin e=>exact hk.elim
  |bad=>exact hk.elim
  | «at» c K=>
   cases c with
   |cond c x y=>
    simp only at hk hd
    cases hv:bOf (BZ st c)with
    |none=>rw [hv]at hk;exact hk.elim
    |some w=>
     rw [hv]at hk hd
     simp only at hk hd
     have hw:w=v:=by
      cases cs with
      |nil=>exact Ck.b.inj hk.1.1
      |cons j _=>
       obtain⟨h1,h2⟩:=hk.1
       have:=Md hΓ h2
       exact Ck.p.inj h1 ▸ this
     subst hw
     have:=go_ok (n:=FU) (x:= .c _) (ih hk.2 hΓ hd)
     refine yU w (Ou hv) (fun e=> ?_) fun e=> ?_
     ·subst e;exact this
     ·subst e;exact this
   |_=>exact hk.elim
 |fk v a b iha ihb=>
  intro f st Γ an po r' hk hΓ hd
  unfold tr at hk hd
  have hd':(bif v then _ else _)=some r':=hd
  cases v with
  |true=>exact iha hk.1 ⟨rfl,hΓ⟩ hd'
  |false=>exact ihb hk.2 ⟨rfl,hΓ⟩ hd'
 |im s k ih=>
  intro f st Γ an po r' hk hΓ hd
  unfold tr at hk hd
  cases hz:Jv (s.act st) (s.want st)with
  |none=>rw [hz]at hk;exact hk.elim
  |some c=>
   rw [hz]at hk hd
   have hi:=s.ok B N L st (I4 hz hk.1)
   have:=ih hk.2 hΓ hd
   cases f with
   | «at» c K=>exact xk hi this
   |fin e=>exact QI.imp hi this
   |bad=>exact this
 |wi j s k ih=>
  intro f st Γ an po r' hk hΓ hd
  unfold tr at hk hd
  cases hz:Jv (s.act st) (s.want st)with
  |none=>rw [hz]at hk;exact hk.elim
  |some c=>
   rw [hz]at hk hd
   have hp:s.p:=Ck.p.inj hk.1.1 ▸ vw hΓ
   have hi:=s.ok hp B N L st (I4 hz hk.1.2)
   have:=ih hk.2 hΓ hd
   cases f with
   | «at» c K=>exact xk hi this
   |fin e=>exact QI.imp hi this
   |bad=>exact this
 |ul n k ih=>
  intro f st Γ an po r' hk hΓ hd
  unfold tr at hk hd
  cases f with
  |fin e=>exact hk.elim
  |bad=>exact hk.elim
  | «at» c K=>
   cases c with
   |loop c=>
    have:=go_ok (n:=FU) (x:= .c c) (K:= .lo c n::K) (ih hk hΓ hd)
    exact TL (n+1) this
   |_=>exact hk.elim
 |ss k ih=>
  intro f st Γ an po r' hk hΓ hd
  unfold tr at hk hd
  cases f with
  |fin e=>exact hk.elim
  |bad=>exact hk.elim
  | «at» c K=>
   cases c with
   |scope c=>
    have:=go_ok (n:=FU) (x:= .c c) (K:= .sc::K) (ih hk hΓ hd)
    exact QB this
   |_=>exact hk.elim
 |sp s0 t u a body k iha ihb ihk=>
  intro f st Γ an po r' hk hΓ hd
  unfold tr at hk hd
  split at hk
  ·rename_i x l y K
   simp only at hd
   split at hk
   ·rename_i hfl
    rw [hfl]at hd
    simp only at hd
    obtain⟨hka,hkb,hkk⟩:=hk
    unfold Tr.den at hd
    rw [Option.bind_eq_some_iff]at hd
    obtain⟨un,ha,hd⟩:=hd
    rw [Option.bind_eq_some_iff]at hd
    obtain⟨o,ho,hd⟩:=hd
    have h1:=go_ok (n:=FU) (x:= .c x) (K:=[]) (iha hka hΓ ha)
    have hc:jE rd P B N L (.scope (.seq x (.seq (.label l) y))) (fun e st1=>QI B N L ((Po.gt l K (t.at st) (u.at st) po).Q rd P B N L (.done o)) e st1) st:=by
     have hb: ∀s f,(tr q P T N L (body s) (go FU (.c y) []) (t.at st s) Γ [] (.gt l K (t.at st) (u.at st) po)).den=some f→jE rd P B N L y (GQ l (t.at st) (fun r e st1=>QI B N L ((Po.gt l K (t.at st) (u.at st) po).Q rd P B N L (.done r)) e st1) f) (t.at st s):=fun s fl hs=>by
      refine ow (iQ (go_ok (n:=FU) (x:= .c y) (K:=[]) (ihb s (hkb s) hΓ hs)) fun e st1 hq=> ?_)
      obtain⟨s',hi,hq⟩:=hq
      refine⟨s',hi, ?_⟩
      cases fl with
      |next s2=>exact hq
      |done r=>
       refine⟨?_,s', .refl,hq⟩
       cases r with
       |brk z=>obtain⟨rfl,_⟩:=hq;exact fun _=>Exit.noConfusion
       |ret x=>exact hq.1
     refine Rj (rest:= .seq .skip y) l (by simp [findLabel,hfl]) (t.at st) (fun(r:Ex _ _) e st1=>QI B N L ((Po.gt l K (t.at st) (u.at st) po).Q rd P B N L (.done r)) e st1) ho (fun s fl hs=>uU (Jc (hb s fl hs))) fun fl hs=> ?_
     refine Wv _ h1 fun e st' hh=> ?_
     obtain⟨s',hi,hq⟩:=hh
     obtain⟨rfl,rfl⟩:=hq
     exact xk hi (uU (KV (hb s0 fl hs)))
    refine iQ hc fun e st1 hq=> ?_
    obtain⟨s',hi,hq⟩:=hq
    refine pQ hi ?_
    cases o with
    |brk z=>
     obtain⟨rfl,rfl⟩:=hq
     exact go_ok (n:=FU) (x:= .e .normal) (ihk z (hkk z) hΓ hd)
    |ret x=>
     cases hd
     exact hq.2.2
   ·exact hk.elim
  ·exact hk.elim
 |rf lb sl outs w jf c k ih=>
  intro f st Γ an po r' hk hΓ hd
  unfold tr at hk hd
  split at hk
  ·rename_i g ps assign body K
   simp only at hd
   cases hs:Ns P N lb sl outs w jf c g ps assign body st Γ an with
   |none=>rw [hs]at hk;exact hk.elim
   |some x=>
    obtain⟨ck,e,st'⟩:=x
    rw [hs]at hk hd
    obtain rfl:=hrd rfl
    exact Ug hΓ hs hk.1 (go_ok (n:=FU) (x:= .e e) (ih hk.2 hΓ hd))
  ·exact hk.elim
 |fz l k ih=>
  intro f st Γ an po r' hk hΓ hd
  unfold tr at hk hd
  cases hz:Vj L l (Gv (sJ st.slots) []) (Gv (sJ st.heap) []) (Ak st)with
  |none=>rw [hz]at hk;exact hk.elim
  |some c=>
   obtain⟨e,s1⟩:=c
   rw [hz]at hk hd
   obtain⟨ren,hz⟩:=K9 hz
   obtain⟨ts,cs',hf,hcs⟩:=yC hz (FZ hk.1) [] trivial
   have hi:d9 B N L st s1:=d9.fin _ ts hf hcs
   have:=ih hk.2 hΓ hd
   cases f with
   | «at» c K=>exact xk hi this
   |fin e=>exact QI.imp hi this
   |bad=>exact this
 |jn d t a k iha ihk=>
  intro f st Γ an po r' hk hΓ hd
  unfold tr at hk hd
  cases f with
  |fin e=>exact hk.elim
  |bad=>exact hk.elim
  | «at» c K=>
   simp only at hk hd
   cases hK:K.drop d with
   |nil=>rw [hK]at hk;exact hk.elim
   |cons x K2=>
    cases x with
    |bl i=>rw [hK]at hk;exact hk.elim
    |lo _ _=>rw [hK]at hk;exact hk.elim
    |sc=>rw [hK]at hk;exact hk.elim
    |sq y=>
     rw [hK]at hk hd
     simp only at hk hd
     have hKe:K=K.take d++(.sq y::K2):=by rw [←hK];exact(List.take_append_drop d K).symm
     unfold Tr.den at hd
     rw [Option.bind_eq_some_iff]at hd
     obtain⟨o,ho,hd⟩:=hd
     have h1:=iha hk.1 hΓ ho
     show jE rd P B N L c (post rd P B N L K (QI B N L (po.Q rd P B N L r'))) st
     rw [hKe]
     refine iQ h1 fun e st1 hq=>pF (K2:= .sq y::K2) (fun e st1 hq=> ?_) hq
     obtain⟨s',hi,hq⟩:=hq
     refine pQ (K:= .sq y::K2) hi ?_
     cases o with
     |brk z=>
      obtain⟨rfl,rfl⟩:=hq
      exact go_ok (n:=FU) (x:= .c y) (ihk z (hk.2 z) hΓ hd)
     |ret v=>
      cases hd
      obtain⟨hne,hq⟩:=hq
      cases e with
      |normal=>exact absurd rfl hne
      |_=>exact hq
 |jN d t a k iha ihk=>
  intro f st Γ an po r' hk hΓ hd
  unfold tr at hk hd
  cases f with
  |fin e=>exact hk.elim
  |bad=>exact hk.elim
  | «at» c K=>
   simp only at hk hd
   cases hK:K.drop d with
   |nil=>rw [hK]at hk;exact hk.elim
   |cons x K2=>
    cases x with
    |bl i=>rw [hK]at hk;exact hk.elim
    |lo _ _=>rw [hK]at hk;exact hk.elim
    |sc=>rw [hK]at hk;exact hk.elim
    |sq y=>
     rw [hK]at hk hd
     simp only at hk hd
     have hKe:K=K.take d++(.sq y::K2):=by rw [←hK];exact(List.take_append_drop d K).symm
     obtain⟨z,ho,hd⟩: ∃o,(tr q P T N L a (.at c (K.take d)) st Γ an (.jN (t.at st))).den=some o∧(tr q P T N L (k o) (go FU (.c y) K2) (t.at st o) Γ [] po).den=some r':=by
      have hd':Option.bind _ _=some r':=hd
      rw [Option.bind_eq_some_iff]at hd'
      exact hd'
     have h1:=iha hk.1 hΓ ho
     show jE rd P B N L c (post rd P B N L K (QI B N L (po.Q rd P B N L r'))) st
     rw [hKe]
     refine iQ h1 fun e st1 hq=>pF (K2:= .sq y::K2) (fun e st1 hq=> ?_) hq
     obtain⟨s',hi,hq⟩:=hq
     refine pQ (K:= .sq y::K2) hi ?_
     obtain⟨rfl,rfl⟩:=hq
     exact go_ok (n:=FU) (x:= .c y) (ihk z (hk.2 z) hΓ hd)
 |lp s0 fz rn t u body k ihb ihk=>
  intro f st Γ an po r' hk hΓ hd
  unfold tr at hk hd
  cases f with
  |fin e=>exact hk.elim
  |bad=>exact hk.elim
  | «at» c K=>
   cases c with
   |loop c=>
    cases K with
    |nil=>exact hk.elim
    |cons x K2=>
     cases x with
     |sq y=>exact hk.elim
     |lo _ _=>exact hk.elim
     |sc=>exact hk.elim
     |bl b=>
      simp only at hk hd
      cases hn:narrow L fz rn (t.at st s0) st with
      |none=>rw [hn]at hk;exact hk.elim
      |some ck=>
       rw [hn]at hk hd
       simp only at hk hd
       obtain⟨hk0,hkb,hkk⟩:=hk
       unfold Tr.den Tr.den at hd
       rw [Option.bind_eq_some_iff]at hd
       obtain⟨o,ho,hd⟩:=hd
       refine xk (tC hn hk0) ?_
       refine iQ (Lh (t.at st) (fun(r:Ex _ _) e st1=>QI B N L ((Po.lp b K2 (t.at st) (u.at st) po).Q rd P B N L (.done r)) e st1) ho fun s fl hs=> ?_) fun e st1 hq=> ?_
       ·refine ow (iQ (go_ok (n:=FU) (x:= .c c) (K:=[]) (ihb s (hkb s) hΓ hs)) fun e st1 hq=> ?_)
        obtain⟨s',hi,hq⟩:=hq
        refine⟨s',hi, ?_⟩
        cases fl with
        |next s2=>exact hq
        |done r=>
         refine⟨?_,s', .refl,hq⟩
         cases r with
         |brk z=>obtain⟨rfl,_⟩:=hq;exact Exit.noConfusion
         |ret x=>exact hq.1
       ·obtain⟨s',hi,hq⟩:=hq
        refine pQ (K:= .bl b::K2) hi ?_
        cases o with
        |brk z=>
         obtain⟨rfl,rfl⟩:=hq
         show(bif Nat.beq b b then _ else _)
         rw [Nat.beq_refl]
         exact go_ok (n:=FU) (x:= .e .normal) (ihk z (hkk z) hΓ hd)
        |ret x=>
         cases hd
         obtain⟨h1,h2,hq⟩:=hq
         cases e with
         |normal=>exact absurd rfl h1
         |exit i=>
          show(bif Nat.beq i b then _ else _)
          rw [uZ (fun e=>h2 (by rw [e]))]
          exact hq
         |goto l=>exact hq
         |ret=>exact hq
         |panic v=>exact hq
         |outgrown=>exact hq
   |_=>exact hk.elim
end
end Sg
