import Derived.Test.YtcafpngcflplgaaGreatDoorSmLc
import Derived.Maps.RangeRun
import Derived.Test.YtcafpngcflplgaaGreatDoorSmLb
set_option linter.all false
namespace Sg
open Go Go.ChangeMaps
section
variable {P:Program} {B:Base} {N:Nat} {L:List Nat} {st:St} {rd:Option Nat}
theorem iB {ops:Array Oper} {Q:Exit->Act->World->Prop} {i:Nat} {o:Oper} {a:Act} {w w':World} {v:Value} {K:Act->World->Prop} (ho:ops[i]? =some o) (hg:o.guard=none) (hrun:(execOp a.eval o).run P w= .ok (.value v) w') (hK:K (a.put o.dst v) w'):wpOpIn (FW rd) 0 P ops Q i K a w:=by
 unfold wpOpIn;rw [ho];simp only [Region.wanted,hg,if_true];refine mQ rd (jm hrun (fun _ h=>by cases h)) ?_;simp only [Oper.wp,hrun,Oper.upon];exact hK
theorem oI {ρ:Nat->Option Pl} {F:Nat->Prop} {w:World} {sl:List (Nat × TV)} {a:Act} {d:Nat} {tv:TV} {v:Value} (hs: ∀t tv,get sl t=some tv-> ∃v,a.tmps[t]? =some v/\bE ρ F w tv v) (hd:d<a.tmps.size) (hr:bE ρ F w tv v):
  ∀t tv',get ((d,tv)::sl) t=some tv'-> ∃v',(a.put (some d) v).tmps[t]? =some v'/\bE ρ F w tv' v':=by
 intro t tv' ht;rw [aC]at ht;split at ht
 ·rename_i e;subst e;cases ht;exact⟨v,by simp [Act.put,hd],hr⟩
 ·rename_i e;obtain⟨u,hu,hr'⟩:=hs t tv' ht;exact⟨u,by simp only [Act.put];rw [Array.getElem?_setIfInBounds_ne e];exact hu,hr'⟩
theorem eval_put_ne {a:Act} {d t:Nat} {v:Value} (h:t≠d):(a.put (some d) v).eval (.tmp t)=a.eval (.tmp t):=by
 simp only [Act.eval,Act.put,Array.getD_eq_getD_getElem?];rw [Array.getElem?_setIfInBounds_ne (Ne.symm h)]
theorem wI {a:Act} {d:Nat} {v:Value} (h:d<a.tmps.size):(a.put (some d) v).eval (.tmp d)=v:=by simp [Act.eval,Act.put,h]
structure It (B:Base) (N:Nat) (L:List Nat) (st:St) (it kit km:Nat) (es:Array MapEntry) (seen:Array Nat) (a:Act) (w:World):Prop where
 ex: ∃ρ F ft,Fr B ρ F w/\mg B ρ F w (aP st.heap) ft/\(∀t tv,get st.slots t=some tv-> ∃v,a.tmps[t]? =some v/\bE ρ F w tv v)/\Marks B F w a.defers/\ρ it=some (.blk kit 0 0)/\
  ∀k,k=kit\/k=km-> ¬ F k/\ ∀b ob,aP st.heap b=some (some ob)-> ¬ ft b k
 ids: ∀b p,B.ρ b=some p->b∈L
 sz:a.tmps.size=N
 bit:B.w.heap.size<=kit
 itx:w.heap[kit]? =some (.mapIter (some km) es.size seen es.size)
 mpx:w.heap[km]? =some (.map es es.size)
theorem lt_of_heap {w:World} {k:Nat} {o:Obj} (h:w.heap[k]? =some o):k<w.heap.size:=(Array.getElem?_eq_some_iff.1 h).1
theorem It.Qq {it kit km:Nat} {es:Array MapEntry} {seen:Array Nat} {a:Act} {w:World} (h:It B N L st it kit km es seen a w):Conc B N L st a w:=by
 obtain⟨⟨ρ,F,ft,h1,h2,h3,h4,_⟩,h5,h6,_,_,_⟩:=h;exact⟨⟨ρ,F,h1,⟨ft,h2⟩,h3,h4⟩,h5,h6⟩
theorem It.base {it kit km:Nat} {es:Array MapEntry} {seen:Array Nat} {a:Act} {w:World} (h:It B N L st it kit km es seen a w):
  ∃B',Conc B' N (it::L) st a w/\ ∀st' a' w',Conc B' N (it::L) st' a' w'->It B N L st' it kit km es seen a' w':=by
 obtain⟨⟨ρ,F,ft,fr,hi,hs,dn,hit,hK⟩,ids,sz,bit,itx,mpx⟩:=h;have lk: ∀k,k=kit\/k=km->k<w.heap.size:=fun k hk=>hk.elim (fun e=>e ▸ lt_of_heap itx) (fun e=>e ▸ lt_of_heap mpx)
 let B':Base:=⟨w,(fun x=>if x=it then some (.blk kit 0 0)else B.ρ x),F,(fun k=> ∃b ob,aP st.heap b=some (some ob)/\ft b k),B.mb,B.df⟩
 have nK: ∀k,k=kit\/k=km-> ¬ B'.Ft k:=fun k hk ⟨b,ob,h1,h2⟩=>(hK k hk).2 b ob h1 h2;refine⟨B',⟨⟨ρ,F,⟨rfl,rfl, .refl _,cx _,fun _ _ _=>rfl,fun b p e=> ?_,fun k hk=> ⟨(fr.fz k hk).1, .inl hk⟩,fun _ h=>h⟩,⟨ft,hi.obj,fun b ob k hb hf=> ⟨(hi.blk b ob k hb hf).1,(hi.blk b ob k hb hf).2.1, .inl ⟨b,ob,hb,hf⟩⟩,hi.dis,hi.fresh,hi.gl⟩,hs, ?_⟩,fun b p e=> ?_,sz⟩, ?_⟩
 ·by_cases hb:b=it
  ·subst hb;have e:(if b=b then some (.blk kit 0 0)else B.ρ b)=some p:=e;rw [ci rfl]at e;rw [hit,e]
  ·have e:(if b=it then some (.blk kit 0 0)else B.ρ b)=some p:=e;rw [ce hb]at e;exact fr.rho b p e
 ·obtain⟨d0,Ds,d1,d2,d3⟩:=dn;exact⟨dC d0 fr.size,Ds,d1,d2,d3⟩
 ·by_cases hb:b=it
  ·subst hb;exact ct
  ·have e:(if b=it then some (.blk kit 0 0)else B.ρ b)=some p:=e;rw [ce hb]at e;exact cm _ (ids b p e)
 ·rintro st' a' w' ⟨⟨ρ',F',fr',⟨ft',hi'⟩,hs',dn'⟩,_,sz'⟩;have inB: ∀k,(B'.Ft k\/w.heap.size<=k)->B.Ft k\/B.w.heap.size<=k:=fun k hk=>by
   rcases hk with⟨b,ob,h1,h2⟩|hk;·exact(hi.blk b ob k h1 h2).2.2
   ·exact .inr (dC fr.size hk)
  have hit':ρ' it=some (.blk kit 0 0):=fr'.rho it _ (ci rfl);have hmem: ∀k,k=kit\/k=km->w'.heap[k]? =w.heap[k]? :=fun k hk=>fr'.mem k (lk k hk) (nK k hk);refine⟨⟨ρ',F',ft',⟨fr'.os.trans fr.os,fr'.tape.trans fr.tape,fr'.output.trans fr.output,dC fr.size fr'.size,fun k hk hn=> ?_,fun b p e=> ?_,fun k hk=> ?_,fun k hk=>fr'.bf k (fr.bf k hk)⟩,⟨hi'.obj,fun b ob k hb hf=> ?_,hi'.dis,hi'.fresh,hi'.gl⟩,hs', ?_,hit',fun k hk=> ⟨fun hf=> ?_,fun b ob hb hf=> ?_⟩⟩,ids,sz',bit,(hmem _ (.inl rfl)).trans itx,(hmem _ (.inr rfl)).trans mpx⟩
  ·refine(fr'.mem k (eJ hk fr.size) fun⟨b,ob,h1,h2⟩=> ?_).trans (fr.mem k hk hn);rcases(hi.blk b ob k h1 h2).2.2 with h|h
   ·exact hn h
   ·omega
  ·apply fr'.rho;show(if b=it then some (.blk kit 0 0)else B.ρ b)=some p;by_cases hb:b=it
   ·subst hb;have:=fr.rho b p e;rw [ci rfl,<-hit,this]
   ·rw [ce hb];exact e
  ·obtain⟨x1,x2⟩:=fr'.fz k hk;refine⟨x1, ?_⟩;rcases x2 with x2|x2
   ·exact(fr.fz k x2).2
   ·exact .inr (inB k x2)
  ·obtain⟨x1,x2,x3⟩:=hi'.blk b ob k hb hf;exact⟨x1,x2,inB k x3⟩
  ·obtain⟨_,Ds,d1,d2,d3⟩:=dn';exact⟨dn.1,Ds,d1,d2,d3⟩
  ·have:=lk k hk;rcases(fr'.fz k hf).2 with x|x|x
   ·exact(hK k hk).1 x
   ·exact nK k hk x
   ·exact absurd x (by show ¬ w.heap.size<=k;omega)
  ·have:=lk k hk;rcases(hi'.blk b ob k hb hf).2.2 with x|x
   ·exact nK k hk x
   ·exact absurd x (by show ¬ w.heap.size<=k;omega)
theorem It.put {it kit km:Nat} {es:Array MapEntry} {seen:Array Nat} {a:Act} {w:World} (h:It B N L st it kit km es seen a w) {d:Nat} {tv:TV} {v:Value} (hd:d<N) (hr: ∀ρ F w,bE ρ F w tv v):
  It B N L ⟨(d,tv)::st.slots,st.heap⟩ it kit km es seen (a.put (some d) v) w:=by
 obtain⟨⟨ρ,F,ft,fr,hi,hs,dn,hit,hK⟩,ids,sz,bit,itx,mpx⟩:=h;exact⟨⟨ρ,F,ft,fr,hi,oI hs (by omega) (hr _ _ _),dn,hit,hK⟩,ids,by simp [Act.put,sz],bit,itx,mpx⟩
theorem It.turn {it kit km:Nat} {es:Array MapEntry} {seen seen':Array Nat} {a:Act} {w w':World} (h:It B N L st it kit km es seen a w) (ho:w'.os=w.os) (ht:w'.tape=w.tape) (hp:OD w' w)
  (hh:w'.heap=w.heap.setIfInBounds kit (.mapIter (some km) es.size seen' es.size)):It B N L st it kit km es seen' a w':=by
 obtain⟨⟨ρ,F,ft,fr,hi,hs,dn,hit,hK⟩,ids,sz,bit,itx,mpx⟩:=h;have hlt:=lt_of_heap itx;have hold: ∀k,k≠kit->w'.heap[k]? =w.heap[k]? :=fun k hk=>by rw [hh,Array.getElem?_setIfInBounds_ne (Ne.symm hk)]
 have hsz:w'.heap.size=w.heap.size:=by rw [hh,eE]
 have hkk:km≠kit:=fun e=>by subst e;rw [itx]at mpx;cases mpx
 have g:Gr ρ F w ρ F w':=⟨fun _ _ h=>h,fun _ h=>h,fun k hk=>hold k fun e=>(hK kit (.inl rfl)).1 (e ▸ hk)⟩;refine⟨⟨ρ,F,ft,⟨ho.trans fr.os,ht.trans fr.tape,hp.trans fr.output,by rw [hsz];exact fr.size,fun k hk hn=>(hold k (by omega)).trans (fr.mem k hk hn),fr.rho,fun k hk=> ⟨by rw [hsz];exact(fr.fz k hk).1,(fr.fz k hk).2⟩,fr.bf⟩,
  ⟨fun b ob hb=>(hi.obj b ob hb).keep g (fun _ h=>h) fun k hk=>hold k fun e=>(hK kit (.inl rfl)).2 b ob hb (e ▸ hk),fun b ob k hb hf=> ⟨by rw [hsz];exact(hi.blk b ob k hb hf).1,(hi.blk b ob k hb hf).2⟩,hi.dis,hi.fresh,hi.gl.gr g⟩,
  fun t tv h=> ?_,dn.gr g,hit,hK⟩,ids,sz,bit,by rw [hh];simp [hlt],by rw [hold km hkk];exact mpx⟩
 obtain⟨v,hv,hr⟩:=hs t tv h;exact⟨v,hv,hr.gr g⟩
theorem It.eval {it kit km:Nat} {es:Array MapEntry} {seen:Array Nat} {a:Act} {w:World} (h:It B N L st it kit km es seen a w) {t:Nat} (hsl:get st.slots t=some (.v (.one (.ptr it 0)))):a.eval (.tmp t)= .pointer (some ⟨kit,0,none⟩):=by
 obtain⟨⟨ρ,F,ft,fr,hi,hs,dn,hit,hK⟩,_⟩:=h;obtain⟨v,hv,k,base,cap,h1,h2⟩:=hs _ _ hsl;rw [hit]at h1;cases h1;simp [Act.eval,hv,h2]
structure Es (es:Array MapEntry) (n:Nat) (keyS valS:Nat->SV):Prop where
 sz:es.size=n
 at_: ∀i,i<n-> ∃e,es[i]? =some e/\e.born=i/\(∀ρ F w,fB ρ F w (keyS i) e.key)/\ ∀ρ F w,fB ρ F w (valS i) e.val
theorem Es.born {es:Array MapEntry} {n:Nat} {keyS valS:Nat->SV} (h:Es es n keyS valS):es.toList.map (·.born)=List.range n:=by
 apply List.ext_getElem?;intro i;rw [dj,Array.getElem?_toList];by_cases hi:i<n
 ·obtain⟨e,h1,h2,_⟩:=h.at_ i hi;rw [h1,List.getElem?_range hi];simp [h2]
 ·rw [Array.getElem?_eq_none (by rw [h.sz];omega),eL (by simp;omega)];rfl
theorem Es.mem {es:Array MapEntry} {n:Nat} {keyS valS:Nat->SV} (h:Es es n keyS valS) {e:MapEntry} (he:e∈es.toList):e.born<n/\es[e.born]? =some e:=by
 obtain⟨i,hi,rfl⟩:=List.mem_iff_getElem.1 he;have hi2:i<n:=by rw [<-h.sz];simpa using hi
 obtain⟨e',h1,h2,_⟩:=h.at_ i hi2;have:es[i]? =some (es.toList[i]):=by rw [<-Array.getElem?_toList,cR hi]
 rw [this]at h1;cases h1;rw [h2];exact⟨hi2,this⟩
theorem It.next {it kit km n:Nat} {keyS valS:Nat->SV} {es:Array MapEntry} {seen:Array Nat} {a:Act} {w:World} (h:It B N L st it kit km es seen a w) (hes:Es es n keyS valS)
  {o0 o1:Oper} {t2 t3 t4 id:Nat} (e0:o0.op= .next (.tmp t2) false) (g0:o0.guard=none) (d0:o0.dst=some t3) (e1:o1.op= .extract (.tmp t3) 0) (g1:o1.guard=none) (d1:o1.dst=some t4) (h3:t3<N) (h4:t4<N)
  (hsl:get st.slots t2=some (.v (.one (.ptr it 0)))) {Q:Exit->Act->World->Prop}
  (hend:(∀i,i<n->i∈seen)-> ∀a' w',It B N L ⟨(t4,vB false)::(t3, .eB [.one (.d (.bool false))])::st.slots,st.heap⟩ it kit km es seen a' w'->Q .normal a' w')
  (hmore: ∀i,i<n->i ∉ seen-> ∀a' w',It B N L ⟨(t4,vB true)::(t3, .eB [.one (.d (.bool true)),keyS i,valS i])::st.slots,st.heap⟩ it kit km es (seen.push i) a' w'->Q .normal a' w'):
  (Code.region id #[o0,o1] false).wpIn (FW rd) 0 P Q a w:=by
 refine wpIn_region ?_;show wpOpsIn _ _ _ _ _ [0,1] a w;have hev:=h.eval hsl;have hbd: ∀x∈es.toList,x.born<es.size:=fun x hx=>by rw [hes.sz];exact(hes.mem hx).1
 have hput: ∀(w':World) (v:Value),(execOp (a.put (some t3) v).eval o1).run P w'=(Instr.extract v 0>>=fun v=>pure (Next.value v):Sem Next).run P w':=fun w' v=>by
  have:(a.put (some t3) v).eval (.tmp t3)=v:=by simp [Act.eval,Act.put,h.sz,h3]
  simp only [execOp,e1,this]
 rcases run_next_at (P:=P) w o0.type kit km es.size es.size seen es es.size h.itx h.mpx hbd (cx _)with⟨hl,hrun⟩|⟨e,he,w1,hw1,hrun⟩
 ·rw [wpOpsIn_cons];refine iB (o:=o0) rfl g0 (v:= .tuple #[.bool false]) (w':=w) ?_ ?_
  ·simp only [execOp,e0,hev,eC,hrun,eA,Sem.run_pure]
  rw [wpOpsIn_cons];refine iB (o:=o1) rfl g1 (v:= .bool false) (w':=w) ?_ ?_;·rw [d0,hput];simp [Instr.extract]
  rw [d0,d1];refine hend (fun i hi=> ?_) _ _ ((h.put (tv:= .eB [.one (.d (.bool false))]) h3 fun ρ F w=> ⟨[.bool false],rfl,rfl,trivial⟩).put (tv:=vB false) h4 fun ρ F w=>rfl);obtain⟨e,q1,q2,_⟩:=hes.at_ i hi;apply cM;intro hns;have:e∈leftOf es seen:=by
   unfold leftOf;rw [Array.mem_filter];exact⟨Array.mem_of_getElem? q1,by simp [q2,hns]⟩
  have:=Array.size_pos_of_mem this;omega
 ·have hel:e∈es/\e.born ∉ seen:=by
   have:e∈leftOf es seen:=by simpa using he
   unfold leftOf at this;rw [Array.mem_filter]at this;exact⟨this.1,by simpa using this.2⟩
  obtain⟨m1,m2⟩:=hes.mem (by simpa using hel.1);obtain⟨e',q1,q2,q3,q4⟩:=hes.at_ _ m1;rw [m2]at q1;cases q1;rw [wpOpsIn_cons];refine iB (o:=o0) rfl g0 (v:= .tuple #[.bool true,e.key,e.val]) (w':=setBlock w1 kit (.mapIter (some km) es.size (seen.push e.born) es.size)) ?_ ?_;·simp only [execOp,e0,hev,eC,hrun,eA,Sem.run_pure]
  rw [wpOpsIn_cons];refine iB (o:=o1) rfl g1 (v:= .bool true) (w':=setBlock w1 kit (.mapIter (some km) es.size (seen.push e.born) es.size)) ?_ ?_;·rw [d0,hput];simp [Instr.extract]
  rw [d0,d1];have h':It B N L st it kit km es (seen.push e.born) a (setBlock w1 kit (.mapIter (some km) es.size (seen.push e.born) es.size)):=by
   rcases hw1 with rfl|rfl;·exact h.turn rfl rfl ⟨rfl,trivial⟩ rfl
   ·exact h.turn rfl rfl ⟨rfl,trivial⟩ rfl
  exact hmore _ m1 hel.2 _ _ ((h'.put (tv:= .eB [.one (.d (.bool true)),keyS e.born,valS e.born]) h3 fun ρ F w=> ⟨[.bool true,e.key,e.val],rfl,rfl,q3 _ _ _,q4 _ _ _,trivial⟩).put (tv:=vB true) h4 fun ρ F w=>rfl)
def RWp (rd:Option Nat) (P:Program) (B:Base) (N:Nat) (L:List Nat) (ops:Array Oper) (l:List Nat) (Qs:St->Prop) (st:St):Prop:=
 ∀Q:Exit->Act->World->Prop,(∀st' a w,Qs st'->Conc B N L st' a w->Q .normal a w)-> ∀a w,Conc B N L st a w->wpOpsIn (FW rd) 0 P ops Q l a w
def Pj (Fc:Cl->List SV->List (Nat × Option Ob)->TV->List (Nat × Option Ob)->Prop) (T:List (Nat × TI)) (ops:Array Oper) (l:List Nat) (N:Nat) (L:List Nat) (x:vv) (st:St):Option (List Prop × St):=
 match run Fc T ops.toList x.yb x.an x.fr N l (lm st)with
 |some (cs,r)=>finish L x.fin x.ts cs r
 |none=>none
theorem rwp {T:List (Nat × TI)} (hT:kg P T) {ops:Array Oper} {l:List Nat} {Qs:St->Prop} {st':St} (s:St) (x:vv) {cs:List Prop} (he:Pj (vF P) T ops l N L x st=some (cs,s)) (hc:All cs) (hi:jl B N L s st') (hQ:Qs st'):RWp rd P B N L ops l Qs st:=by
 intro Q hq a w hconc;unfold Pj at he;split at he
 ·rename_i cs0 r hrun;have hid:=hconc.ids;exact Bo hT hrun (oC he hc) (lF hconc) fun a' w' hrc=>hq _ _ _ hQ (hi _ _ (lI he hc hrc hid))
 ·cases he
theorem It.entry {it kit km n i:Nat} {keyS valS:Nat->SV} {es:Array MapEntry} {seen:Array Nat} {a:Act} {w:World} (h:It B N L st it kit km es (seen.push i) a w) (hes:Es es n keyS valS) (hi:i<n)
  {ops:Array Oper} {l:List Nat} {o0 o1 o2:Oper} {t2 t5 t6 t7 id:Nat} (hl:List.range ops.size=0::1::2::l) (p0:ops[0]? =some o0) (p1:ops[1]? =some o1) (p2:ops[2]? =some o2)
  (e0:o0.op= .entry (.tmp t2)) (g0:o0.guard=none) (d0:o0.dst=some t5) (e1:o1.op= .extract (.tmp t5) 0) (g1:o1.guard=none) (d1:o1.dst=some t6) (e2:o2.op= .extract (.tmp t5) 1) (g2:o2.guard=none) (d2:o2.dst=some t7)
  (h5:t5<N) (h6:t6<N) (h7:t7<N) (n56:t5≠t6)
  (hsl:get st.slots t2=some (.v (.one (.ptr it 0)))) {Q:Exit->Act->World->Prop}
  (hQ: ∀a' w',It B N L ⟨(t7, .v (valS i))::(t6, .v (keyS i))::(t5, .eB [keyS i,valS i])::st.slots,st.heap⟩ it kit km es (seen.push i) a' w'->wpOpsIn (FW rd) 0 P ops Q l a' w'):
  (Code.region id ops false).wpIn (FW rd) 0 P Q a w:=by
 refine wpIn_region ?_;rw [hl];have hev:=h.eval hsl;obtain⟨e,q1,q2,q3,q4⟩:=hes.at_ i hi;have hmem:e∈es.toList:=by rw [<-Array.getElem?_toList]at q1;exact List.mem_of_getElem? q1
 have hrun:=run_entry_at (P:=P) w kit km es.size seen es es.size e (by rw [q2];exact h.itx) h.mpx hmem (by rw [hes.born];exact List.nodup_range);have sz:=h.sz;rw [wpOpsIn_cons];refine iB (o:=o0) p0 g0 (v:= .tuple #[e.key,e.val]) (w':=w) ?_ ?_;·simp only [execOp,e0,hev,eC,hrun,eA,Sem.run_pure]
 rw [d0,wpOpsIn_cons];refine iB (o:=o1) p1 g1 (v:=e.key) (w':=w) ?_ ?_
 ·have:(a.put (some t5) (.tuple #[e.key,e.val])).eval (.tmp t5)= .tuple #[e.key,e.val]:=by simp [Act.eval,Act.put,sz,h5]
  simp [execOp,e1,this,Instr.extract]
 rw [d1,wpOpsIn_cons];refine iB (o:=o2) p2 g2 (v:=e.val) (w':=w) ?_ ?_
 ·have:((a.put (some t5) (.tuple #[e.key,e.val])).put (some t6) e.key).eval (.tmp t5)= .tuple #[e.key,e.val]:=by
   rw [eval_put_ne n56,wI (by omega)]
  simp [execOp,e2,this,Instr.extract]
 rw [d2];exact hQ _ _ (((h.put (tv:= .eB [keyS i,valS i]) h5 fun ρ F w=> ⟨[e.key,e.val],rfl,q3 _ _ _,q4 _ _ _,trivial⟩).put (tv:= .v (keyS i)) h6 fun ρ F w=>q3 _ _ _).put (tv:= .v (valS i)) h7 fun ρ F w=>q4 _ _ _)
def Sl (s:SV):Prop:= ∀ρ F w ρ' F' w' v,fB ρ F w s v->fB ρ' F' w' s v
theorem It.start {a:Act} {w:World} (hc:Conc B N L st a w) {tm t1 t2 b it id:Nat} {T K V:TypeId} {m:Mj} {keyS valS:Nat->SV} {o0 o1:Oper}
  (e0:o0.op= .move (.tmp tm)) (g0:o0.guard=none) (d0:o0.dst=some t1) (e1:o1.op= .range T (.tmp t1)) (g1:o1.guard=none) (d1:o1.dst=some t2) (h1:t1<N) (h2:t2<N)
  (hT:P.underlying T=some (.map K V)) (hsl:get st.slots tm=some (.v (.one (.mp b)))) (hb:get st.heap b=some (some (.map m))) (hit:get st.heap it=none)
  (hk: ∀i,i<m.len->jU m.kagg (dS (fun j=> .d (m.key i j)) 0 m.ksz)=some (keyS i)/\jU m.vagg (dS (m.val i) 0 m.vsz)=some (valS i)) (hp: ∀i,i<m.len->Sl (keyS i)/\Sl (valS i)) {Q:Exit->Act->World->Prop}
  (hQ: ∀es kit km a' w',Es es m.len keyS valS->It B N L ⟨(t2,vP it 0)::(t1, .v (.one (.mp b)))::st.slots,(it,none)::(b,none)::st.heap⟩ it kit km es #[] a' w'->Q .normal a' w'):
  (Code.region id #[o0,o1] false).wpIn (FW rd) 0 P Q a w:=by
 obtain⟨⟨ρ,F,fr,⟨ft,hi⟩,hs,dn⟩,ids,sz⟩:=hc;obtain⟨v,hv,hvr⟩:=hs _ _ hsl;have hvr':=hvr;obtain⟨km,base,cap,hρ,rfl⟩:=hvr;obtain⟨km',base',cap',es,r1,r2,r3,r4,r5,r6⟩:=hi.obj b _ hb;rw [hρ]at r1;cases r1;have hes:Es es m.len keyS valS:=⟨r4,fun i hi'=>by
  obtain⟨e,q1,q2,⟨s1,q3,q4⟩,⟨s2,q5,q6⟩⟩:=r6 i hi';rw [(hk i hi').1]at q3;cases q3;rw [(hk i hi').2]at q5;cases q5;exact⟨e,q1,q2,fun ρ' F' w'=>(hp i hi').1 _ _ _ _ _ _ _ q4,fun ρ' F' w'=>(hp i hi').2 _ _ _ _ _ _ _ q6⟩⟩
 have hitb:it≠b:=fun e=>by subst e;rw [hit]at hb;cases hb
 have hρit:ρ it=none:=hi.fresh it hit;have hmb:=hi.blk b _ km hb r2;refine wpIn_region ?_;show wpOpsIn _ _ _ _ _ [0,1] a w;rw [wpOpsIn_cons];have hevm:a.eval (.tmp tm)= .map (some km):=by simp [Act.eval,hv]
 refine iB (o:=o0) rfl g0 (v:= .map (some km)) (w':=w) (by simp [execOp,e0,hevm]) ?_;rw [d0,wpOpsIn_cons]
 let w1:World:=w.alloc (.mapIter (some km) es.size #[] es.size)
 have hev1:(a.put (some t1) (.map (some km))).eval (.tmp t1)= .map (some km):=wI (by omega);refine iB (o:=o1) rfl g1 (v:= .pointer (some ⟨w.heap.size,0,none⟩)) (w':=w1) ?_ ?_;·simp only [execOp,e1,hev1,eC,run_range_map w T K V km es es.size hT r3,eA,Sem.run_pure];rfl
 rw [d1];have hsz1:w1.heap.size=w.heap.size+1:=by show(w.heap.push _).size=_;simp
 have hold: ∀k,k<w.heap.size->w1.heap[k]? =w.heap[k]? :=fun k hk=>heap_alloc_old w _ hk;have hupd: ∀x p,ρ x=some p->bN ρ it (.blk w.heap.size 0 0) x=some p:=aS hρit;have g:Gr ρ F w (bN ρ it (.blk w.heap.size 0 0)) F w1:=⟨hupd,fun _ h=>h,fun k hk=>hold k (fr.fz k hk).1⟩;have hget: ∀x ob,aP ((it,none)::(b,none)::st.heap) x=some (some ob)->get st.heap x=some (some ob)/\x≠b/\x≠it:=by
  intro x ob hx;unfold aP at hx;rw [aC,aC]at hx;split at hx;·cases hx
  ·rename_i n1;split at hx
   ·cases hx
   ·rename_i n2;exact⟨hx,Ne.symm n2,Ne.symm n1⟩
 refine hQ es w.heap.size km _ _ hes ⟨⟨bN ρ it (.blk w.heap.size 0 0),F,ft,⟨fr.os,fr.tape,⟨fr.output.out,fr.output.dr⟩,by rw [hsz1];exact Nat.le_succ_of_le fr.size,fun k hk hn=>(hold k (eJ hk fr.size)).trans (fr.mem k hk hn),fun x p e=>hupd x p (fr.rho x p e),fun k hk=> ⟨by rw [hsz1];exact Nat.lt_succ_of_lt (fr.fz k hk).1,(fr.fz k hk).2⟩,fr.bf⟩,
  ⟨fun x ob hx=> ?_,fun x ob k hx hf=> ?_,fun x x' ob ob' k hx hx'=>hi.dis x x' ob ob' k (hget x ob hx).1 (hget x' ob' hx').1,fun x hx=> ?_,hi.gl.gr g⟩, ?_,dn.gr g,ay _ _,fun k hk=> ?_⟩,ids,by simp [Act.put,sz],fr.size,heap_alloc_new w _,by rw [hold km hmb.1];exact r3⟩
 ·exact(hi.obj x ob (hget x ob hx).1).keep g (fun _ h=>h) fun k hk=>hold k (hi.blk x ob k (hget x ob hx).1 hk).1
 ·obtain⟨y1,y2,y3⟩:=hi.blk x ob k (hget x ob hx).1 hf;exact⟨by rw [hsz1];omega,y2,y3⟩
 ·unfold aP at hx;rw [aC,aC]at hx;split at hx
  ·cases hx
  ·rename_i n1;split at hx
   ·cases hx
   ·unfold bN;rw [ce (Ne.symm n1)];exact hi.fresh x hx
 ·refine oI (oI (fun t tv ht=> ?_) (by omega) ?_) (by simp [Act.put];omega) ?_
  ·obtain⟨u,hu,hr⟩:=hs t tv ht;exact⟨u,hu,hr.gr g⟩
  ·exact bE.gr g (s:= .v (.one (.mp b))) hvr'
  ·exact⟨w.heap.size,0,0,ay _ _,rfl⟩
 ·rcases hk with rfl|rfl
  ·exact⟨fun hf=>by have:=(fr.fz _ hf).1;omega,fun x ob hx hf=>by have:=(hi.blk x ob _ (hget x ob hx).1 hf).1;omega⟩
  ·exact⟨hmb.2.1,fun x ob hx hf=>(hget x ob hx).2.1 (hi.dis x b ob _ k (hget x ob hx).1 hb hf r2)⟩
def Ti (N t1 t2 t3 t4 t5 t6 t7:Nat):Bool:=Nat.blt t1 N && Nat.blt t2 N && Nat.blt t3 N && Nat.blt t4 N && Nat.blt t5 N && Nat.blt t6 N && Nat.blt t7 N && !(Nat.beq t5 t6) && !(Nat.beq t3 t2) && !(Nat.beq t4 t2)
theorem NN {N t1 t2 t3 t4 t5 t6 t7:Nat} (h:Ti N t1 t2 t3 t4 t5 t6 t7=true):(t1<N/\t2<N/\t3<N/\t4<N/\t5<N/\t6<N/\t7<N)/\t5≠t6/\t3≠t2/\t4≠t2:=by
 unfold Ti at h;have lt: ∀a b,Nat.blt a b=true->a<b:=fun a b h=>cj h;have ne: ∀a b,(!(Nat.beq a b))=true->a≠b:=fun a b h e=>by subst e;simp at h
 simp only [cd]at h;obtain⟨⟨⟨⟨⟨⟨⟨⟨⟨a1,a2⟩,a3⟩,a4⟩,a5⟩,a6⟩,a7⟩,a8⟩,a9⟩,a10⟩:=h;exact⟨⟨lt _ _ a1,lt _ _ a2,lt _ _ a3,lt _ _ a4,lt _ _ a5,lt _ _ a6,lt _ _ a7⟩,ne _ _ a8,ne _ _ a9,ne _ _ a10⟩
theorem jl.aa8 {b c l E esz len:Nat} {el:Nat->Nat->DV} (hb:get st.heap b=some (some (.arr E esz len el))) (hc:get st.heap c=some (some (.suf b l esz))) (hl:l<=len) (hz:esz≠0):
  jl B N L st ⟨st.slots,(c,some (.arr E esz (len - l) fun i j=>el (i+l) j))::(b,none)::st.heap⟩:=by
 rintro a w ⟨⟨ρ,F,fr,⟨ft,hi⟩,hs,dn⟩,hid,sz⟩;have hne:c≠b:=fun e=>by rw [e,hb]at hc;cases hc
 have hu: ∀x,aP ((c,some (.arr E esz (len - l) fun i j=>el (i+l) j))::(b,none)::st.heap) x=if x=c then some (some (.arr E esz (len - l) fun i j=>el (i+l) j))else if x=b then some none else get st.heap x:=fun x=>by
  unfold aP;rw [aC,aC];by_cases e1:c=x;·rw [ci e1,ci e1.symm]
  ·rw [ce e1,ce (Ne.symm e1)];by_cases e2:b=x
   ·rw [ci e2,ci e2.symm]
   ·rw [ce e2,ce (Ne.symm e2)]
 refine⟨⟨ρ,F,fr,⟨fun x k=>if x=c then ft b k else x≠b/\ft x k,hi.step (.refl _ _ _) fr (cx _) (fun x=>x=c\/x=b) (fun x ob hx hh=> ?_) (fun x ob hx hh=> ?_) (fun x ob k hx hh hf=> ?_) (fun x x' ob ob' k hx hx' hh hh' _ _=> ?_) (fun k hk=> .inl hk) fun x hx=> ?_⟩,hs,dn⟩,hid,sz⟩
 ·have h1:x≠c:=fun e=>hx (.inl e);have h2:x≠b:=fun e=>hx (.inr e);rw [hu,ce h1,ce h2]at hh;exact⟨hh,fun _ _=>rfl,fun k=>by simp only [ce h1];exact⟨fun q=>q.2,fun q=> ⟨h2,q⟩⟩⟩
 ·rw [hu]at hh;by_cases h1:x=c
  ·subst h1;rw [ci rfl]at hh;cases hh;simp only [if_true];have hob:=hi.obj b _ hb;have hsf:=hi.obj x _ hc;rcases hob with⟨g1,g2⟩|⟨k,base,cap,g1,g2,vs,g3,g4,g5,g6,g7⟩
   ·rcases hsf with⟨_,s2,s3⟩|⟨k,base,cap,s1,_⟩
    ·exact .inl ⟨s2,by omega⟩
    ·rw [g1]at s1;cases s1
   ·rcases hsf with⟨s1,_,_⟩|⟨k',base',cap',s1,s2,s3⟩
    ·rw [g1]at s1;cases s1
    ·rw [g1]at s1;cases s1;unfold xA at s3;rw [ce hz]at s3;by_cases hcap:cap=l
     ·rw [ci hcap]at s3;exact .inr ⟨k,base,cap - l,s3,g2,vs,g3,by rw [show cap - l=0 by omega,Nat.zero_mul];omega,by omega,by omega,fun i hi'=>by omega⟩
     ·rw [ce hcap]at s3;refine .inr ⟨k,base+l*esz,cap - l,s3,g2,vs,g3, ?_,by omega,by omega,fun i hi' j hj=> ?_⟩
      ·rw [ec,<-ee,show l+(cap - l)=cap by omega];exact g4
      ·obtain⟨u,q1,q2⟩:=g7 (i+l) (by omega) j hj;exact⟨u,by rw [show base+l*esz+(i*esz+j)=base+((i+l)*esz+j) by rw [ee];omega];exact q1,q2⟩
  ·rw [ce h1]at hh;rcases hx with hx|hx
   ·exact absurd hx h1
   ·rw [ci hx]at hh;cases hh
 ·left;rcases hx with hx|hx
  ·subst hx;simp only [if_true]at hf;exact⟨b,_, .inr rfl,hb,hf⟩
  ·rw [hu,ce (by rw [hx];exact Ne.symm hne),ci hx]at hh;cases hh
 ·have one: ∀y o,y=c\/y=b->aP ((c,some (.arr E esz (len - l) fun i j=>el (i+l) j))::(b,none)::st.heap) y=some (some o)->y=c:=fun y o hy ho=>by
   rcases hy with hy|hy;·exact hy
   ·rw [hu,ce (by rw [hy];exact Ne.symm hne),ci hy]at ho;cases ho
  rw [one x ob hx hh,one x' ob' hx' hh']
 ·rw [hu]at hx;split at hx
  ·cases hx
  ·split at hx
   ·cases hx
   ·exact hi.fresh x hx
theorem jl.Xw {α:Type} [Inhabited α] {b c k E esz:Nat} {cf:α->Nat->DV} {l:List α} (hb:get st.heap b=some (some (.arr E esz l.length (aj cf l)))) (hc:get st.heap c=some (some (.suf b k esz))) (hl:k<=l.length) (hz:esz≠0):
  jl B N L st ⟨st.slots,(c,some (.arr E esz (l.length - k) (aj cf (l.drop k))))::(b,none)::st.heap⟩:=by
 have h:=jl.aa8 (B:=B) (N:=N) (L:=L) hb hc hl hz;have e:(fun i j=>aj cf l (i+k) j)=aj cf (l.drop k):=by
  funext i j
  show cf (at' l (i+k)) j=cf (at' (l.drop k) i) j;rw [Ns]
 rw [e]at h;exact h
end
def SQ (Q:Exit->St->Prop):Exit->St->Prop:=fun e st=>(∀l,e≠ .goto l)/\Q e st
section
variable {P:Program} {B:Base} {N:Nat} {L:List Nat} {st:St} {rd:Option Nat} {Q:Exit->St->Prop}
theorem LQ {c:Code} (h:jV rd P B N L c (SQ Q) st):jV rd P B N L (.scope c) Q st:=by
 intro a w hc b k cs hro hbu hr;obtain⟨e,a1,w1,⟨st',⟨hng,hR⟩,hconc⟩,harr⟩:=h a w hc b (.inScope c::k) cs hro hbu hr;have fin: ∃e a2 w2,(∃st',Q e st'/\Conc B N L st' a2 w2)/\ArrivesIn (Machine.fenced P (FW rd)) P (lone (b.atR a (.code c:: .inScope c::k)) cs w) b k cs e a2 w2:=by
  cases e with
  |normal=>exact⟨.normal,a1,w1,⟨st',hR,hconc⟩,StepsIn.trans harr (.one (fenced_calm hbu hr rfl) xO)⟩
  |exit id=>
   have hx:exitTo id (.inScope c::k)=exitTo id k:=by simp [exitTo]
   exact⟨_,a1,w1,⟨st',hR,hconc⟩,fun k' hk=>harr.1 k' (by rw [hx];exact hk),fun hr' hk=>harr.2 hr' (by rw [hx];exact hk)⟩
  |goto l'=>exact absurd rfl (hng l')
  |ret=>exact⟨_,a1,w1,⟨st',hR,hconc⟩,harr⟩
  |panic ch=>exact⟨_,a1,w1,⟨st',hR,hconc⟩,harr⟩
  |outgrown=>exact⟨_,a1,w1,⟨st',hR,hconc⟩,harr⟩
 obtain⟨e,a2,w2,hq,harr⟩:=fin;exact⟨e,a2,w2,hq, .of_steps (.one (fenced_calm hbu hr rfl) Cr) harr⟩
end
section
variable {B:Base} {N:Nat} {L:List Nat} {st:St}
theorem jl.Q9 {b c m m1:Nat} {n:Int} {K V E:TypeId} {nn:Bool} {l:List (Int × List Int)} {el1:Nat->Nat->DV} (hb:get st.heap b=some (some (.gm K V E l (some (n, .own c nn m))))) (hc:get st.heap c=some (some (.arr E 1 m1 el1)))
  (hm:m=m1) (hl:m1=(oK n l).length) (hq:aB m1 1 el1 (zm (oK n l))):jl B N L st ⟨st.slots,(b,some (.gm K V E l none))::(c,none)::st.heap⟩:=by
 intro a w hconc;obtain⟨⟨ρ,F,hfr,hi,hs,dn⟩,hid,sz⟩:=hconc;refine⟨⟨ρ,F,hfr, ?_,hs,dn⟩,hid,sz⟩;have:=HI.Q9 (n':=0) hfr hi hb hc rfl rfl hm hl hq;have e:upd (aP st.heap) [(b,some (.gm K V E l none)),(c,none)]=aP ((b,some (.gm K V E l none))::(c,none)::st.heap):=by
  funext x
  rw [wT];simp only [aP];rw [aC,aC]
 rw [e]at this;exact this
end
end Sg

namespace Sg
open Go Go.ChangeMaps
def goS {σ ρ:Type} (l:List (Int × List Int)) (p:Int × List Int->Bool) (mb:Int × List Int->σ->Option (bC σ (Ex σ ρ))) (s:σ):Option (Ex σ ρ):=
 match l.filter p with
 |[]=>some (.brk s)
 |[x]=>match mb x s with|some (.next s')=>some (.brk s')|some (.done r)=>some r|none=>none
 |_=>none
def Qb {σ R:Type}:bC σ (Ex Empty R)->bC σ (Ex σ R)
 | .next s=> .next s
 | .done (.ret v)=> .done (.ret v)
 | .done (.brk z)=>z.elim
def goG {σ R:Type} (l:List (Int × List Int)) (p:Int × List Int->Bool) (mb:Int × List Int->σ->Option (bC σ (Ex Empty R))) (s:σ):Option (Ex σ R):=
 goS l p (fun x s=>(mb x s).map Qb) s
section
variable {P:Program} {B:Base} {N:Nat} {L:List Nat} {st:St} {rd:Option Nat}
theorem xH {T:List (Nat × TI)} (hT:kg P T) {ops:Array Oper} {yb:Nat->Bool} {an:Nat->iJ} {fr:Nat->Nat} {Q:Exit->Act->World->Prop} {l2:List Nat}: ∀{l:List Nat} {r r':RS} {cs:List Prop} {a:Act} {w:World},run (vF P) T ops.toList yb an fr N l r=some (cs,r')->All cs->RC B yb N r a w->
  (∀a' w',RC B yb N r' a' w'->wpOpsIn (FW rd) 0 P ops Q l2 a' w')->wpOpsIn (FW rd) 0 P ops Q (l++l2) a w
 |[],r,r',cs,a,w,hr,hc,hrc,hQ=>by
  simp [run]at hr;obtain⟨rfl,rfl⟩:=hr;exact hQ a w hrc
 |i::l,r,r',cs,a,w,hr,hc,hrc,hQ=>by
  simp only [run]at hr;split at hr
  ·rename_i c r1 h1;split at hr
   ·rename_i c' r2 h2;cases hr;rw [aW]at hc;rw [dE,wpOpsIn_cons];exact y7 hT h1 hc.1 hrc fun a' w' h'=>xH hT h2 hc.2 h' hQ
   ·cases hr
  ·cases hr
theorem abS {T:List (Nat × TI)} (hT:kg P T) {ops:Array Oper} {l:List Nat} (s:St) (x:vv) {cs:List Prop} (he:Pj (vF P) T ops l N L x st=some (cs,s)) (hc:All cs) {Q:Exit->Act->World->Prop} {l2:List Nat}
  (hq: ∀a w,Conc B N L s a w->wpOpsIn (FW rd) 0 P ops Q l2 a w): ∀a w,Conc B N L st a w->wpOpsIn (FW rd) 0 P ops Q (l++l2) a w:=by
 intro a w hconc;unfold Pj at he;split at he
 ·rename_i cs0 r hrun;have hid:=hconc.ids;exact xH hT hrun (oC he hc) (lF hconc) fun a' w' hrc=>hq _ _ (lI he hc hrc hid)
 ·cases he
structure uP (B:Base) (N:Nat) (L:List Nat) (st:St) (it kit b km n:Nat) (seen:Array Nat) (a:Act) (w:World):Prop where
 ex: ∃ρ F ft,Fr B ρ F w/\mg B ρ F w (aP st.heap) ft/\(∀t tv,get st.slots t=some tv-> ∃v,a.tmps[t]? =some v/\bE ρ F w tv v)/\Marks B F w a.defers/\ρ it=some (.blk kit 0 0)/\(∃base cap,ρ b=some (.blk km base cap))/\
  ¬ F kit/\ ∀b ob,aP st.heap b=some (some ob)-> ¬ ft b kit
 ids: ∀b p,B.ρ b=some p->b∈L
 sz:a.tmps.size=N
 bit:B.w.heap.size<=kit
 itx:w.heap[kit]? =some (.mapIter (some km) n seen n)
theorem uP.Qq {it kit b km n:Nat} {seen:Array Nat} {a:Act} {w:World} (h:uP B N L st it kit b km n seen a w):Conc B N L st a w:=by
 obtain⟨⟨ρ,F,ft,h1,h2,h3,h4,_⟩,h5,h6,_,_⟩:=h;exact⟨⟨ρ,F,h1,⟨ft,h2⟩,h3,h4⟩,h5,h6⟩
theorem uP.base {it kit b km n:Nat} {seen:Array Nat} {a:Act} {w:World} (hne:it≠b) (h:uP B N L st it kit b km n seen a w):
  ∃B',Conc B' N (it::b::L) st a w/\ ∀st' a' w',Conc B' N (it::b::L) st' a' w'->uP B N L st' it kit b km n seen a' w':=by
 obtain⟨⟨ρ,F,ft,fr,hi,hs,dn,hit,⟨bb,bc,hbm⟩,hF,hK⟩,ids,sz,bit,itx⟩:=h;have lk:kit<w.heap.size:=lt_of_heap itx
 let B':Base:=⟨w,(fun x=>if x=it then some (.blk kit 0 0)else if x=b then some (.blk km bb bc)else B.ρ x),F,(fun k=> ∃b ob,aP st.heap b=some (some ob)/\ft b k),B.mb,B.df⟩
 have bρ: ∀x,B'.ρ x=if x=it then some (.blk kit 0 0)else if x=b then some (.blk km bb bc)else B.ρ x:=fun _=>rfl
 have nK: ¬ B'.Ft kit:=fun⟨b,ob,h1,h2⟩=>hK b ob h1 h2;refine⟨B',⟨⟨ρ,F,⟨rfl,rfl, .refl _,cx _,fun _ _ _=>rfl,fun x p e=> ?_,fun k hk=> ⟨(fr.fz k hk).1, .inl hk⟩,fun _ h=>h⟩,⟨ft,hi.obj,fun b ob k hb hf=> ⟨(hi.blk b ob k hb hf).1,(hi.blk b ob k hb hf).2.1, .inl ⟨b,ob,hb,hf⟩⟩,hi.dis,hi.fresh,hi.gl⟩,hs, ?_⟩,fun x p e=> ?_,sz⟩, ?_⟩
 ·rw [bρ]at e;by_cases h1:x=it
  ·rw [ci h1]at e;rw [h1,hit,e]
  ·rw [ce h1]at e;by_cases h2:x=b
   ·rw [ci h2]at e;rw [h2,hbm,e]
   ·rw [ce h2]at e;exact fr.rho x p e
 ·obtain⟨d0,Ds,d1,d2,d3⟩:=dn;exact⟨dC d0 fr.size,Ds,d1,d2,d3⟩
 ·rw [bρ]at e;by_cases h1:x=it
  ·rw [h1];exact ct
  ·rw [ce h1]at e;by_cases h2:x=b
   ·rw [h2];exact cm _ ct
   ·rw [ce h2]at e;exact cm _ (cm _ (ids x p e))
 ·rintro st' a' w' ⟨⟨ρ',F',fr',⟨ft',hi'⟩,hs',dn'⟩,_,sz'⟩;have inB: ∀k,(B'.Ft k\/w.heap.size<=k)->B.Ft k\/B.w.heap.size<=k:=fun k hk=>by
   rcases hk with⟨b,ob,h1,h2⟩|hk;·exact(hi.blk b ob k h1 h2).2.2
   ·exact .inr (dC fr.size hk)
  have hit':ρ' it=some (.blk kit 0 0):=fr'.rho it _ (by rw [bρ,ci rfl]);have hbm':ρ' b=some (.blk km bb bc):=fr'.rho b _ (by rw [bρ,ce (Ne.symm hne),ci rfl]);have hmem:w'.heap[kit]? =w.heap[kit]? :=fr'.mem kit lk nK;refine⟨⟨ρ',F',ft',⟨fr'.os.trans fr.os,fr'.tape.trans fr.tape,fr'.output.trans fr.output,dC fr.size fr'.size,fun k hk hn=> ?_,fun x p e=> ?_,fun k hk=> ?_,fun k hk=>fr'.bf k (fr.bf k hk)⟩,⟨hi'.obj,fun b ob k hb hf=> ?_,hi'.dis,hi'.fresh,hi'.gl⟩,hs', ?_,hit',⟨bb,bc,hbm'⟩,fun hf=> ?_,fun b ob hb hf=> ?_⟩,ids,sz',bit,hmem.trans itx⟩
  ·refine(fr'.mem k (eJ hk fr.size) fun⟨b,ob,h1,h2⟩=> ?_).trans (fr.mem k hk hn);rcases(hi.blk b ob k h1 h2).2.2 with h|h
   ·exact hn h
   ·omega
  ·have e2:=fr.rho x p e;refine fr'.rho x p ?_;rw [bρ];by_cases h1:x=it
   ·rw [ci h1,<-e2,h1,hit]
   ·rw [ce h1];by_cases h2:x=b
    ·rw [ci h2,<-e2,h2,hbm]
    ·rw [ce h2];exact e
  ·obtain⟨x1,x2⟩:=fr'.fz k hk;refine⟨x1, ?_⟩;rcases x2 with x2|x2
   ·exact(fr.fz k x2).2
   ·exact .inr (inB k x2)
  ·obtain⟨x1,x2,x3⟩:=hi'.blk b ob k hb hf;exact⟨x1,x2,inB k x3⟩
  ·obtain⟨_,Ds,d1,d2,d3⟩:=dn';exact⟨dn.1,Ds,d1,d2,d3⟩
  ·rcases(fr'.fz kit hf).2 with x|x|x
   ·exact hF x
   ·exact nK x
   ·exact absurd x (by show ¬ w.heap.size<=kit;omega)
  ·rcases(hi'.blk b ob kit hb hf).2.2 with x|x
   ·exact nK x
   ·exact absurd x (by show ¬ w.heap.size<=kit;omega)
theorem uP.put {it kit b km n:Nat} {seen:Array Nat} {a:Act} {w:World} (h:uP B N L st it kit b km n seen a w) {d:Nat} {tv:TV} {v:Value} (hd:d<N) (hr: ∀ρ F w,bE ρ F w tv v):
  uP B N L ⟨(d,tv)::st.slots,st.heap⟩ it kit b km n seen (a.put (some d) v) w:=by
 obtain⟨⟨ρ,F,ft,fr,hi,hs,dn,hit,hbm,hF,hK⟩,ids,sz,bit,itx⟩:=h;exact⟨⟨ρ,F,ft,fr,hi,oI hs (by omega) (hr _ _ _),dn,hit,hbm,hF,hK⟩,ids,by simp [Act.put,sz],bit,itx⟩
theorem uP.XA {it kit b km n:Nat} {seen:Array Nat} {a:Act} {w:World} (h:uP B N L st it kit b km n seen a w) {d:Nat} {v:Value} (hd:get st.slots d=none):
  uP B N L st it kit b km n seen (a.put (some d) v) w:=by
 obtain⟨⟨ρ,F,ft,fr,hi,hs,dn,hit,hbm,hF,hK⟩,ids,sz,bit,itx⟩:=h;refine⟨⟨ρ,F,ft,fr,hi,fun t tv ht=> ?_,dn,hit,hbm,hF,hK⟩,ids,by simp [Act.put,sz],bit,itx⟩;obtain⟨u,hu,hr⟩:=hs t tv ht;have hne:d≠t:=fun e=>by subst e;rw [hd]at ht;cases ht
 exact⟨u,by simp only [Act.put];rw [Array.getElem?_setIfInBounds_ne hne];exact hu,hr⟩
theorem uP.turn {it kit b km n:Nat} {seen seen':Array Nat} {a:Act} {w w':World} (h:uP B N L st it kit b km n seen a w) (ho:w'.os=w.os) (ht:w'.tape=w.tape) (hp:OD w' w)
  (hh:w'.heap=w.heap.setIfInBounds kit (.mapIter (some km) n seen' n)):uP B N L st it kit b km n seen' a w':=by
 obtain⟨⟨ρ,F,ft,fr,hi,hs,dn,hit,hbm,hF,hK⟩,ids,sz,bit,itx⟩:=h;have hlt:=lt_of_heap itx;have hold: ∀k,k≠kit->w'.heap[k]? =w.heap[k]? :=fun k hk=>by rw [hh,Array.getElem?_setIfInBounds_ne (Ne.symm hk)]
 have hsz:w'.heap.size=w.heap.size:=by rw [hh,eE]
 have g:Gr ρ F w ρ F w':=⟨fun _ _ h=>h,fun _ h=>h,fun k hk=>hold k fun e=>hF (e ▸ hk)⟩;refine⟨⟨ρ,F,ft,⟨ho.trans fr.os,ht.trans fr.tape,hp.trans fr.output,by rw [hsz];exact fr.size,fun k hk hn=>(hold k (by omega)).trans (fr.mem k hk hn),fr.rho,fun k hk=> ⟨by rw [hsz];exact(fr.fz k hk).1,(fr.fz k hk).2⟩,fr.bf⟩,
  ⟨fun b ob hb=>(hi.obj b ob hb).keep g (fun _ h=>h) fun k hk=>hold k fun e=>hK b ob hb (e ▸ hk),fun b ob k hb hf=> ⟨by rw [hsz];exact(hi.blk b ob k hb hf).1,(hi.blk b ob k hb hf).2⟩,hi.dis,hi.fresh,hi.gl.gr g⟩,
  fun t tv h=> ?_,dn.gr g,hit,hbm,hF,hK⟩,ids,sz,bit,by rw [hh];simp [hlt]⟩
 obtain⟨v,hv,hr⟩:=hs t tv h;exact⟨v,hv,hr.gr g⟩
theorem uP.eval {it kit b km n:Nat} {seen:Array Nat} {a:Act} {w:World} (h:uP B N L st it kit b km n seen a w) {t:Nat} (hsl:get st.slots t=some (.v (.one (.ptr it 0)))):a.eval (.tmp t)= .pointer (some ⟨kit,0,none⟩):=by
 obtain⟨⟨ρ,F,ft,fr,hi,hs,dn,hit,_⟩,_⟩:=h;obtain⟨v,hv,k,base,cap,h1,h2⟩:=hs _ _ hsl;rw [hit]at h1;cases h1;simp [Act.eval,hv,h2]
structure YA (w:World) (km:Nat) (l:List (Int × List Int)) (es:Array MapEntry):Prop where
 at_:w.heap[km]? =some (.map es es.size)
 sz:es.size=l.length
 ent: ∀i,i<l.length-> ∃e,es[i]? =some e/\e.born=i/\e.key= .int .i64 (l.getD i default).1
theorem YA.born {w:World} {km:Nat} {l:List (Int × List Int)} {es:Array MapEntry} (h:YA w km l es):es.toList.map (·.born)=List.range l.length:=by
 apply List.ext_getElem?;intro i;rw [dj,Array.getElem?_toList];by_cases hi:i<l.length
 ·obtain⟨e,h1,h2,_⟩:=h.ent i hi;rw [h1,List.getElem?_range hi];simp [h2]
 ·rw [Array.getElem?_eq_none (by rw [h.sz];omega),eL (by simp;omega)];rfl
theorem YA.mem {w:World} {km:Nat} {l:List (Int × List Int)} {es:Array MapEntry} (h:YA w km l es) {e:MapEntry} (he:e∈es.toList):e.born<l.length/\es[e.born]? =some e:=by
 obtain⟨i,hi,rfl⟩:=List.mem_iff_getElem.1 he;have hi2:i<l.length:=by rw [<-h.sz];simpa using hi
 obtain⟨e',h1,h2,_⟩:=h.ent i hi2;have:es[i]? =some (es.toList[i]):=by rw [<-Array.getElem?_toList,cR hi]
 rw [this]at h1;cases h1;rw [h2];exact⟨hi2,this⟩
theorem uP.es {it kit b km n:Nat} {seen:Array Nat} {a:Act} {w:World} (h:uP B N L st it kit b km n seen a w) {K V E:TypeId} {l:List (Int × List Int)} {ov:Option (Int × CV)} (hb:get st.heap b=some (some (.gm K V E l ov))): ∃es,YA w km l es:=by
 obtain⟨⟨ρ,F,ft,fr,hi,hs,dn,hit,⟨bb,bc,hbm⟩,hF,hK⟩,ids,sz,bit,itx⟩:=h;obtain⟨k,base,cap,es,rb,m1,m0,m2,m3,m4,m5,m6,m7⟩:=hi.obj b _ hb;rw [hbm]at m1;cases m1;exact⟨es,m2,m3,fun i hi=>by obtain⟨e,e1,e2,e3,_⟩:=m4 i hi;exact⟨e,e1,e2,e3⟩⟩
theorem uP.next {it kit b km:Nat} {l:List (Int × List Int)} {es:Array MapEntry} {seen:Array Nat} {a:Act} {w:World} (h:uP B N L st it kit b km l.length seen a w) (hes:YA w km l es)
  {o0 o1:Oper} {t2 t3 t4 id:Nat} (e0:o0.op= .next (.tmp t2) false) (g0:o0.guard=none) (d0:o0.dst=some t3) (e1:o1.op= .extract (.tmp t3) 0) (g1:o1.guard=none) (d1:o1.dst=some t4) (h3:t3<N) (h4:t4<N)
  (hsl:get st.slots t2=some (.v (.one (.ptr it 0)))) (hs3:get st.slots t3=none) {Q:Exit->Act->World->Prop}
  (hend:(∀i,i<l.length->i∈seen)-> ∀a' w',uP B N L ⟨(t4,vB false)::st.slots,st.heap⟩ it kit b km l.length seen a' w'->Q .normal a' w')
  (hmore: ∀i,i<l.length->i ∉ seen-> ∀a' w',uP B N L ⟨(t4,vB true)::st.slots,st.heap⟩ it kit b km l.length (seen.push i) a' w'->Q .normal a' w'):
  (Code.region id #[o0,o1] false).wpIn (FW rd) 0 P Q a w:=by
 refine wpIn_region ?_;show wpOpsIn _ _ _ _ _ [0,1] a w;have hev:=h.eval hsl;have hn:=hes.sz;have hbd: ∀x∈es.toList,x.born<l.length:=fun x hx=>(hes.mem hx).1;have hput: ∀(w':World) (v:Value),(execOp (a.put (some t3) v).eval o1).run P w'=(Instr.extract v 0>>=fun v=>pure (Next.value v):Sem Next).run P w':=fun w' v=>by
  have:(a.put (some t3) v).eval (.tmp t3)=v:=by simp [Act.eval,Act.put,h.sz,h3]
  simp only [execOp,e1,this]
 rcases run_next_at (P:=P) w o0.type kit km l.length l.length seen es es.size h.itx hes.at_ hbd (cx _)with⟨hl,hrun⟩|⟨e,he,w1,hw1,hrun⟩
 ·rw [wpOpsIn_cons];refine iB (o:=o0) rfl g0 (v:= .tuple #[.bool false]) (w':=w) ?_ ?_
  ·simp only [execOp,e0,hev,eC,hrun,eA,Sem.run_pure]
  rw [wpOpsIn_cons];refine iB (o:=o1) rfl g1 (v:= .bool false) (w':=w) ?_ ?_;·rw [d0,hput];simp [Instr.extract]
  rw [d0,d1];refine hend (fun i hi=> ?_) _ _ ((h.XA hs3).put (tv:=vB false) h4 fun ρ F w=>rfl);obtain⟨e,q1,q2,_⟩:=hes.ent i hi;apply cM;intro hns;have:e∈leftOf es seen:=by
   unfold leftOf;rw [Array.mem_filter];exact⟨Array.mem_of_getElem? q1,by simp [q2,hns]⟩
  have:=Array.size_pos_of_mem this;omega
 ·have hel:e∈es/\e.born ∉ seen:=by
   have:e∈leftOf es seen:=by simpa using he
   unfold leftOf at this;rw [Array.mem_filter]at this;exact⟨this.1,by simpa using this.2⟩
  obtain⟨m1,m2⟩:=hes.mem (by simpa using hel.1);rw [hn]at hrun;rw [wpOpsIn_cons];refine iB (o:=o0) rfl g0 (v:= .tuple #[.bool true,e.key,e.val]) (w':=setBlock w1 kit (.mapIter (some km) l.length (seen.push e.born) l.length)) ?_ ?_;·simp only [execOp,e0,hev,eC,hrun,eA,Sem.run_pure]
  rw [wpOpsIn_cons];refine iB (o:=o1) rfl g1 (v:= .bool true) (w':=setBlock w1 kit (.mapIter (some km) l.length (seen.push e.born) l.length)) ?_ ?_;·rw [d0,hput];simp [Instr.extract]
  rw [d0,d1];have h':uP B N L st it kit b km l.length (seen.push e.born) a (setBlock w1 kit (.mapIter (some km) l.length (seen.push e.born) l.length)):=by
   rcases hw1 with rfl|rfl;·exact h.turn rfl rfl ⟨rfl,trivial⟩ rfl
   ·exact h.turn rfl rfl ⟨rfl,trivial⟩ rfl
  exact hmore _ m1 hel.2 _ _ ((h'.XA hs3).put (tv:=vB true) h4 fun ρ F w=>rfl)
theorem uP.entry {it kit b c km i:Nat} {K V E:TypeId} {l:List (Int × List Int)} {seen:Array Nat} {a:Act} {w:World} (h:uP B N L st it kit b km l.length (seen.push i) a w) (hi:i<l.length) (hb:get st.heap b=some (some (.gm K V E l none))) (hcn:get st.heap c=none) (hci:c≠it)
  {ops:Array Oper} {lops:List Nat} {o0 o1 o2:Oper} {t2 t5 t6 t7 id:Nat} (hl:List.range ops.size=0::1::2::lops) (p0:ops[0]? =some o0) (p1:ops[1]? =some o1) (p2:ops[2]? =some o2)
  (e0:o0.op= .entry (.tmp t2)) (g0:o0.guard=none) (d0:o0.dst=some t5) (e1:o1.op= .extract (.tmp t5) 0) (g1:o1.guard=none) (d1:o1.dst=some t6) (e2:o2.op= .extract (.tmp t5) 1) (g2:o2.guard=none) (d2:o2.dst=some t7)
  (h5:t5<N) (h6:t6<N) (h7:t7<N) (n56:t5≠t6)
  (hsl:get st.slots t2=some (.v (.one (.ptr it 0)))) (hs5:get st.slots t5=none) {Q:Exit->Act->World->Prop}
  (hQ: ∀a' w',uP B N L ⟨(t7, .v (.one (.own c false (l.getD i default).2.length)))::(t6,vI (l.getD i default).1)::st.slots,(b,some (.gm K V E l (some ((l.getD i default).1, .own c false (l.getD i default).2.length))))::(c,some (.arr E 1 (l.getD i default).2.length (zm (l.getD i default).2)))::st.heap⟩ it kit b km l.length (seen.push i) a' w'->wpOpsIn (FW rd) 0 P ops Q lops a' w'):
  (Code.region id ops false).wpIn (FW rd) 0 P Q a w:=by
 refine wpIn_region ?_;rw [hl];have hev:=h.eval hsl;obtain⟨es,hes⟩:=h.es hb;obtain⟨e,q1,q2,q3⟩:=hes.ent i hi;have hmem:e∈es.toList:=by rw [<-Array.getElem?_toList]at q1;exact List.mem_of_getElem? q1
 have hn:=hes.sz;have hrun:=run_entry_at (P:=P) w kit km l.length seen es es.size e (by rw [q2,hn];exact h.itx) hes.at_ hmem (by rw [hes.born];exact List.nodup_range);have sz:=h.sz;rw [wpOpsIn_cons];refine iB (o:=o0) p0 g0 (v:= .tuple #[e.key,e.val]) (w':=w) ?_ ?_;·simp only [execOp,e0,hev,eC,hrun,eA,Sem.run_pure]
 rw [d0,wpOpsIn_cons];refine iB (o:=o1) p1 g1 (v:=e.key) (w':=w) ?_ ?_
 ·have:(a.put (some t5) (.tuple #[e.key,e.val])).eval (.tmp t5)= .tuple #[e.key,e.val]:=by simp [Act.eval,Act.put,sz,h5]
  simp [execOp,e1,this,Instr.extract]
 rw [d1,wpOpsIn_cons];refine iB (o:=o2) p2 g2 (v:=e.val) (w':=w) ?_ ?_
 ·have:((a.put (some t5) (.tuple #[e.key,e.val])).put (some t6) e.key).eval (.tmp t5)= .tuple #[e.key,e.val]:=by
   rw [eval_put_ne n56,wI (by omega)]
  simp [execOp,e2,this,Instr.extract]
 rw [d2];refine hQ _ _ ?_;have h1:uP B N L ⟨(t6,vI (l.getD i default).1)::st.slots,st.heap⟩ it kit b km l.length (seen.push i) ((a.put (some t5) (.tuple #[e.key,e.val])).put (some t6) e.key) w:=
  (h.XA hs5).put (tv:=vI (l.getD i default).1) h6 fun ρ F w=>q3
 obtain⟨⟨ρ,F,ft,fr,hif,hs,dn,hit,hbm,hF,hK⟩,ids,sz1,bit,itx⟩:=h1;obtain⟨bb,bc,hbm⟩:=hbm;have hob:aP st.heap b=some (some (.gm K V E l none)):=hb;have hcn':aP st.heap c=none:=hcn;obtain⟨k',base',cap',es',rb,m1,m0,m2,m3,m4,m5,m6,m7⟩:=hif.obj b _ hob;have hk:=m1;rw [hbm]at m1;cases m1;have hee:es'=es:=by have:=hes.at_;rw [m2]at this;cases this;rfl
 subst hee;obtain⟨e',x1,x2,x3,x4⟩:=m4 i hi;rw [q1]at x1;cases x1;have x4:fC F w (ft b) (rb i) (MF E (l.getD i default).2) e.val:=x4;have hρc:=hif.fresh c hcn';have grn: ∀p,Gr ρ F w (bN ρ c p) F w:=fun p=> ⟨aS hρc,fun _ h=>h,fun _ _=>rfl⟩;have frn: ∀p,Fr B (bN ρ c p) F w:=fun p=>{fr with rho:=fun b' p' e=>aS hρc b' p' (fr.rho b' p' e)};have hbc:b≠c:=fun e=>by rw [e,hcn']at hob;cases hob
 have rest: ∀(p:Pl) (S1:Nat->Prop),(∀q,S1 q↔ft b q/\rb i≠some q)->dK (bN ρ c p) F w (.own c false (l.getD i default).2.length) e.val->ig (bN ρ c p) F w S1 b (.gm K V E l (some ((l.getD i default).1, .own c false (l.getD i default).2.length))):=by
  intro p S1 hS1 hcu;refine⟨km,bb,bc,es',rb,aS hρc _ _ hk,(hS1 km).2 ⟨m0,m6 i⟩,m2,m3,fun i' hi'=> ?_,m5,m6,m7⟩;obtain⟨e',y1,y2,y3,y4⟩:=m4 i' hi';refine⟨e',y1,y2,y3, ?_⟩;unfold uS;simp only;split
  ·rename_i q;have:=oH m7 hi' hi q;subst this;rw [q1]at y1;cases y1;exact hcu
  ·rename_i hne;have y4:fC F w (ft b) (rb i') (MF E (l.getD i' default).2) e'.val:=y4;rcases y4 with y4|⟨q,bq,cq,z1,z2,z3,z4⟩
   ·exact .inl y4
   ·exact .inr ⟨q,bq,cq,z1,(hS1 q).2 ⟨z2,fun eq=>hne (by rw [m5 _ _ _ z1 eq])⟩,z3,z4⟩
 have done: ∀(p:Pl) (S2:Nat->Prop),(∀q,S2 q->ft b q)->(∀q,(ft b q/\rb i≠some q)->S2 q->False)->dK (bN ρ c p) F w (.own c false (l.getD i default).2.length) e.val->ig (bN ρ c p) F w S2 c (.arr E 1 (l.getD i default).2.length (zm (l.getD i default).2))->
   uP B N L ⟨(t7, .v (.one (.own c false (l.getD i default).2.length)))::(t6,vI (l.getD i default).1)::st.slots,(b,some (.gm K V E l (some ((l.getD i default).1, .own c false (l.getD i default).2.length))))::(c,some (.arr E 1 (l.getD i default).2.length (zm (l.getD i default).2)))::st.heap⟩ it kit b km l.length (seen.push i)
    (((a.put (some t5) (.tuple #[e.key,e.val])).put (some t6) e.key).put (some t7) e.val) w:=by
  intro p S2 s1 s2 hcu r2;have hsp:=mg.split (S1:=fun q=>ft b q/\rb i≠some q) (S2:=S2) fr hif hob hcn' (fun _ h=>h.1) s1 s2 (rest p _ (fun _=>Iff.rfl) hcu) r2;have eq:upd (aP st.heap) [(b,some (.gm K V E l (some ((l.getD i default).1, .own c false (l.getD i default).2.length)))),(c,some (.arr E 1 (l.getD i default).2.length (zm (l.getD i default).2)))]=aP ((b,some (.gm K V E l (some ((l.getD i default).1, .own c false (l.getD i default).2.length))))::(c,some (.arr E 1 (l.getD i default).2.length (zm (l.getD i default).2)))::st.heap):=by
   funext x;rw [wT];simp only [aP];rw [aC,aC]
  rw [eq]at hsp;refine⟨⟨bN ρ c p,F,_,frn p,hsp,oI (fun t tv ht=> ?_) (by simp [Act.put]at sz1 ⊢;omega) hcu,dn.gr (grn p), ?_,⟨bb,bc,aS hρc _ _ hbm⟩,hF,fun x ob hx hf=> ?_⟩,ids,by simp [Act.put]at sz1 ⊢;exact sz1,bit,itx⟩
  ·obtain⟨u,hu,hr⟩:=hs t tv ht;exact⟨u,hu,hr.gr (grn p)⟩
  ·rw [show bN ρ c p it=ρ it by simp [bN,Ne.symm hci]];exact hit
  ·by_cases hxc:x=c
   ·subst hxc;rw [bB]at hf;exact hK b _ hob (s1 _ hf)
   ·rw [eY hxc]at hf;by_cases hxb:x=b
    ·subst hxb;rw [bB]at hf;exact hK x _ hob hf.1
    ·rw [eY hxb]at hf;refine hK x ob ?_ hf;simp only [aP]at hx ⊢;rw [aC,ce (Ne.symm hxb),aC,ce (Ne.symm hxc)]at hx;exact hx
 rcases x4 with⟨n0,hu0⟩|⟨q,bq,cq,z1,z2,z3,z4⟩;·exact done .nil (fun _=>False) (fun _ h=>h.elim) (fun _ _ h=>h) (.inr ⟨rfl,ay _ _,n0,hu0⟩) (.inl ⟨ay _ _,n0⟩)
 ·exact done (.blk q bq cq) (fun q'=>q'=q) (fun q' h=>h ▸ z2) (fun q' h1 h2=>h1.2 (by rw [z1,h2])) (.inl ⟨q,bq,cq,ay _ _,z3⟩) (.inr ⟨q,bq,cq,ay _ _,rfl,z4⟩)
theorem uP.start {a:Act} {w:World} (hc:Conc B N L st a w) {t1 t2 b it n1:Nat} {T K0 V0 K V E:TypeId} {l:List (Int × List Int)} {o1:Oper} {ops:Array Oper}
  (hn1:ops[n1]? =some o1) (e1:o1.op= .range T (.tmp t1)) (g1:o1.guard=none) (d1:o1.dst=some t2) (h2:t2<N)
  (hT:P.underlying T=some (.map K0 V0)) (hsl:get st.slots t1=some (.v (.one (.mp b)))) (hb:get st.heap b=some (some (.gm K V E l none))) (hit:get st.heap it=none) {Q:Exit->Act->World->Prop}
  (hQ: ∀kit km a' w',(l.map (·.1)).Nodup->uP B N L ⟨(t2,vP it 0)::st.slots,(it,none)::st.heap⟩ it kit b km l.length #[] a' w'->Q .normal a' w'):
  wpOpsIn (FW rd) 0 P ops Q [n1] a w:=by
 obtain⟨⟨ρ,F,fr,⟨ft,hi⟩,hs,dn⟩,ids,sz⟩:=hc;obtain⟨v,hv,hvr⟩:=hs _ _ hsl;have hvr':=hvr;obtain⟨km,base,cap,hρ,rfl⟩:=hvr;obtain⟨km',base',cap',es,rb,r1,r2,r3,r4,r5,r6,r7,r8⟩:=hi.obj b _ hb;rw [hρ]at r1;cases r1;have hitb:it≠b:=fun e=>by subst e;rw [hit]at hb;cases hb
 have hρit:ρ it=none:=hi.fresh it hit;have hmb:=hi.blk b _ km hb r2;have hev1:a.eval (.tmp t1)= .map (some km):=by simp [Act.eval,hv]
 rw [wpOpsIn_cons]
 let w1:World:=w.alloc (.mapIter (some km) es.size #[] es.size)
 refine iB (o:=o1) hn1 g1 (v:= .pointer (some ⟨w.heap.size,0,none⟩)) (w':=w1) ?_ ?_;·simp only [execOp,e1,hev1,eC,run_range_map w T K0 V0 km es es.size hT r3,eA,Sem.run_pure];rfl
 rw [d1];have hsz1:w1.heap.size=w.heap.size+1:=by show(w.heap.push _).size=_;simp
 have hold: ∀k,k<w.heap.size->w1.heap[k]? =w.heap[k]? :=fun k hk=>heap_alloc_old w _ hk;have hupd: ∀x p,ρ x=some p->bN ρ it (.blk w.heap.size 0 0) x=some p:=aS hρit;have g:Gr ρ F w (bN ρ it (.blk w.heap.size 0 0)) F w1:=⟨hupd,fun _ h=>h,fun k hk=>hold k (fr.fz k hk).1⟩;have hget: ∀x ob,aP ((it,none)::st.heap) x=some (some ob)->get st.heap x=some (some ob)/\x≠it:=by
  intro x ob hx;unfold aP at hx;rw [aC]at hx;split at hx;·cases hx
  ·rename_i n1;exact⟨hx,Ne.symm n1⟩
 refine hQ w.heap.size km _ _ r8 ⟨⟨bN ρ it (.blk w.heap.size 0 0),F,ft,⟨fr.os,fr.tape,⟨fr.output.out,fr.output.dr⟩,by rw [hsz1];exact Nat.le_succ_of_le fr.size,fun k hk hn=>(hold k (eJ hk fr.size)).trans (fr.mem k hk hn),fun x p e=>hupd x p (fr.rho x p e),fun k hk=> ⟨by rw [hsz1];exact Nat.lt_succ_of_lt (fr.fz k hk).1,(fr.fz k hk).2⟩,fr.bf⟩,
  ⟨fun x ob hx=> ?_,fun x ob k hx hf=> ?_,fun x x' ob ob' k hx hx'=>hi.dis x x' ob ob' k (hget x ob hx).1 (hget x' ob' hx').1,fun x hx=> ?_,hi.gl.gr g⟩, ?_,dn.gr g,ay _ _,⟨base,cap,hupd _ _ hρ⟩, ?_,fun x ob hx hf=> ?_⟩,ids,by simp [Act.put,sz],fr.size,by rw [<-r4];exact heap_alloc_new w _⟩
 ·exact(hi.obj x ob (hget x ob hx).1).keep g (fun _ h=>h) fun k hk=>hold k (hi.blk x ob k (hget x ob hx).1 hk).1
 ·obtain⟨y1,y2,y3⟩:=hi.blk x ob k (hget x ob hx).1 hf;exact⟨by rw [hsz1];omega,y2,y3⟩
 ·unfold aP at hx;rw [aC]at hx;split at hx
  ·cases hx
  ·rename_i n1;unfold bN;rw [ce (Ne.symm n1)];exact hi.fresh x hx
 ·refine oI (fun t tv ht=> ?_) (by omega) ?_
  ·obtain⟨u,hu,hr⟩:=hs t tv ht;exact⟨u,hu,hr.gr g⟩
  ·exact⟨w.heap.size,0,0,ay _ _,rfl⟩
 ·exact fun hf=>by have:=(fr.fz _ hf).1;omega
 ·have:=(hi.blk x ob _ (hget x ob hx).1 hf).1;omega
theorem uP.imp {it kit b km n:Nat} {seen:Array Nat} {a:Act} {w:World} {st':St} (hne:it≠b) (h:uP B N L st it kit b km n seen a w) (hi: ∀B,jl B N (it::b::L) st st'):uP B N L st' it kit b km n seen a w:=by
 obtain⟨B',h1,h2⟩:=h.base hne;exact h2 _ _ _ (hi B' _ _ h1)
theorem MW: ∀{l:List (Int × List Int)},(l.map (·.1)).Nodup-> ∀{x:Int × List Int},x∈l->oK x.1 l=x.2
 |[],_,_,h=>by cases h
 |(k,v)::l,hn,x,h=>by
  rw [cL,cA]at hn;show(bif decide (x.1=k)then v else oK x.1 l)=_;rcases eh.1 h with rfl|h;·simp
  ·have:x.1≠k:=fun e=>hn.1 (List.mem_map.2 ⟨x,h,e⟩);rw [bz this];exact MW hn.2 h
theorem KC {σ ρ':Type} (S:σ->St) (st1:St) {ops1:Array Oper} {pre:List Nat} {n1:Nat} (hl1:List.range ops1.size=pre++[n1])
  (hpre: ∀Q l2,(∀a w,Conc B N L st1 a w->wpOpsIn (FW rd) 0 P ops1 Q l2 a w)-> ∀a w,Conc B N L st a w->wpOpsIn (FW rd) 0 P ops1 Q (pre++l2) a w) {s0:σ} {r:Ex σ ρ'} {l:List (Int × List Int)} {K V E:TypeId} (b it c:Nat) (p:Int × List Int->Bool) (mb:Int × List Int->σ->Option (bC σ (Ex σ ρ'))) (h:goS l p mb s0=some r) (hno: ∀x,p x=false-> ∀s,mb x s=some (.next s))
  {t1 t2 t3 t4 t5 t6 t7 X Y id1 id2 id3:Nat} {T K0 V0:TypeId} {o1 o2 o3 p0 p1 p2:Oper} {ops:Array Oper} (lops:List Nat) {BODY:Code} {Q:Exit->St->Prop}
  (hsl:get st1.slots t1=some (.v (.one (.mp b)))) (hb:get st1.heap b=some (some (.gm K V E l none))) (hit:get st1.heap it=none) (hci:c≠it)
  (himp: ∀B,jl B N (it::b::L) ⟨(t2,vP it 0)::st1.slots,(it,none)::st1.heap⟩ (S s0))
  (hS: ∀s,get (S s).slots t2=some (vP it 0)/\get (S s).slots t3=none/\get (S s).slots t5=none/\get (S s).heap b=some (some (.gm K V E l none))/\get (S s).heap c=none)
  (hbody: ∀B x s o,oK x.1 l=x.2->mb x s=some o->RWp rd P B N (it::b::L) ops lops (fun st1=>jV rd P B N (it::b::L) BODY (fun e st'=>match o with| .next s'=>(e= .normal\/e= .exit Y)/\st'=S s'| .done r0=>(e≠ .normal/\e≠ .exit X/\e≠ .exit Y)/\(r0=r->Q e st')) st1)
   ⟨(t7, .v (.one (.own c false x.2.length)))::(t6,vI x.1)::(t4,vB true)::(S s).slots,(b,some (.gm K V E l (some (x.1, .own c false x.2.length))))::(c,some (.arr E 1 x.2.length (zm x.2)))::(S s).heap⟩)
  (hend: ∀s,r= .brk s->Q .normal ⟨(t4,vB false)::(S s).slots,(S s).heap⟩)
  (hT:P.underlying T=some (.map K0 V0))
  (hops:(ops1[n1]? =some o1/\o1.op= .range T (.tmp t1)/\o1.guard=none/\o1.dst=some t2)/\(o2.op= .next (.tmp t2) false/\o2.guard=none/\o2.dst=some t3)/\(o3.op= .extract (.tmp t3) 0/\o3.guard=none/\o3.dst=some t4)/\
   (p0.op= .entry (.tmp t2)/\p0.guard=none/\p0.dst=some t5)/\(p1.op= .extract (.tmp t5) 0/\p1.guard=none/\p1.dst=some t6)/\(p2.op= .extract (.tmp t5) 1/\p2.guard=none/\p2.dst=some t7)/\(List.range ops.size=0::1::2::lops/\ops[0]? =some p0/\ops[1]? =some p1/\ops[2]? =some p2))
  (hlt:(Ti N t1 t2 t3 t4 t5 t6 t7)=true) (n54:t4≠t5):
  jV rd P B N L (.seq (.region id1 ops1 false) (.block X (.loop (.seq (.region id2 #[o2,o3] false) (.seq (.cond (.tmp t4) .skip (.exit X)) (.block Y (.seq (.region id3 ops false) BODY))))))) Q st:=by
 intro a w hc;obtain⟨⟨b0,b1,b2,b3⟩,⟨c1,c2,c3⟩,⟨d1,d2,d3⟩,⟨f1,f2,f3⟩,⟨g1,g2,g3⟩,⟨i1,i2,i3⟩,hl,q0,q1,q2⟩:=hops;obtain⟨⟨l1,l2,l3,l4,l5,l6,l7⟩,n56,n32,n42⟩:=NN hlt;have hitb:it≠b:=fun e=>by subst e;rw [hit]at hb;cases hb
 refine wpIn_seq (wpIn_region ?_);rw [hl1];refine hpre _ [n1] (fun a1 w1 hc1=>uP.start hc1 b0 b1 b2 b3 l2 hT hsl hb hit ?_) a w hc;intro kit km a' w' hnd0 hI;have hI0:=hI.imp hitb himp
 let Inv:List Nat->σ->Prop:=fun left s=>((∀i∈left,p (l.getD i default)=false)/\r= .brk s)\/
  ∃i0,i0∈left/\p (l.getD i0 default)=true/\(∀i∈left,p (l.getD i default)=true->i=i0)/\((∃s',mb (l.getD i0 default) s=some (.next s')/\r= .brk s')\/mb (l.getD i0 default) s=some (.done r))
 have hinv0:Inv (List.range l.length) s0:=by
  unfold goS at h;split at h
  ·rename_i hf;left;cases h;refine⟨fun i hi=> ?_,rfl⟩;have hi:=cY.1 hi;have hm:l.getD i default∈l:=by simp [cS,hi]
   cases hp:p (l.getD i default)with
   |false=>rfl
   |true=>exact absurd (c8.2 ⟨hm,hp⟩) (by rw [hf];simp)
  ·rename_i x hf;right;have hx:x∈l.filter p:=by rw [hf];simp
   obtain⟨hxl,hxp⟩:=c8.1 hx;obtain⟨i0,hi0,e0⟩:=List.mem_iff_getElem.1 hxl;have e0:l.getD i0 default=x:=by simp [cS,hi0,e0]
   refine⟨i0,cY.2 hi0,by rw [e0];exact hxp,fun i hi hp=> ?_, ?_⟩
   ·have hi:=cY.1 hi;have hm:l.getD i default∈l:=by simp [cS,hi]
    have:l.getD i default∈l.filter p:=c8.2 ⟨hm,hp⟩;rw [hf,cF]at this;exact oH hnd0 hi hi0 (by rw [this,e0])
   ·rw [e0];split at h
    ·rename_i s' hs;cases h;exact .inl ⟨s',hs,rfl⟩
    ·rename_i r0 hs;cases h;exact .inr hs
    ·cases h
  ·cases h
 refine wpIn_block ?_;refine wpIn_loop_ghost (fun k a w=> ∃(seen:Array Nat) (left:List Nat) (s:σ),left.length=k/\left.Nodup/\(∀x,x∈left↔x<l.length/\x ∉ seen)/\Inv left s/\uP B N L (S s) it kit b km l.length seen a w) l.length
  ⟨#[],List.range l.length,s0,by simp,List.nodup_range,fun x=>by simp,hinv0,hI0⟩ ?_
 rintro k a2 w2 ⟨seen,left,s,hlen,hnd,hmem,hinv,hI⟩;obtain⟨S2,S3,S5,Sb,Sc⟩:=hS s;obtain⟨es,hes⟩:=hI.es Sb;refine wpIn_seq (hI.next hes c1 c2 c3 d1 d2 d3 l3 l4 S2 S3 (fun hall a3 w3 hI3=> ?_) fun i hi hns a3 w3 hI3=> ?_)
 ·have hleft:left=[]:=by
   rw [List.eq_nil_iff_forall_not_mem];intro x hx;have:=(hmem x).1 hx;exact this.2 (hall x this.1)
  subst hleft;have hsr:r= .brk s:=by
   rcases hinv with⟨_,e⟩|⟨i0,hi0,_⟩;·exact e
   ·cases hi0
  refine wpIn_seq (wpIn_cond_split (t:=false) ?_ (fun e=>by cases e) fun _=>wpIn_exit ?_)
  ·obtain⟨ρ,F,_,_,hs,_⟩:=hI3.Qq.ex;obtain⟨v,hv,hr⟩:=hs t4 (vB false) (by rw [aC,ci rfl]);have:v= .bool false:=hr;subst this;simp [Act.eval,hv]
  ·simp only [Exit.then,Exit.inBlock,if_true];exact⟨_,hend s hsr,hI3.Qq⟩
 ·have hil:i∈left:=(hmem i).2 ⟨hi,hns⟩;cases k with
  |zero=>rw [List.length_eq_zero_iff]at hlen;subst hlen;cases hil
  |succ k=>
   obtain⟨o,hmo,hstep⟩: ∃o,mb (l.getD i default) s=some o/\(∀s',o= .next s'->Inv (left.erase i) s')/\(∀r0,o= .done r0->r0=r):=by
    rcases hinv with⟨h1,h2⟩|⟨i0,h1,h2,h3,h4⟩
    ·refine⟨.next s,hno _ (h1 i hil) s,fun s' e=> ?_,fun r0 e=>by cases e⟩;cases e;exact .inl ⟨fun j hj=>h1 j (List.mem_of_mem_erase hj),h2⟩
    ·by_cases hii:i=i0
     ·subst hii;rcases h4 with⟨s',e1,e2⟩|e1
      ·refine⟨_,e1,fun s'' e=> ?_,fun r0 e=>by cases e⟩;cases e;refine .inl ⟨fun j hj=> ?_,e2⟩;rw [hnd.mem_erase_iff]at hj;cases hpj:p (l.getD j default)with
       |false=>rfl
       |true=>exact absurd (h3 j hj.2 hpj) hj.1
      ·exact⟨_,e1,fun s'' e=>(by cases e),fun r0 e=>(by cases e;rfl)⟩
     ·have hpi:p (l.getD i default)=false:=by
       cases hpi:p (l.getD i default)with
       |false=>rfl
       |true=>exact absurd (h3 i hil hpi) hii
      refine⟨.next s,hno _ hpi s,fun s' e=> ?_,fun r0 e=>by cases e⟩;cases e;exact .inr ⟨i0,hnd.mem_erase_iff.2 ⟨Ne.symm hii,h1⟩,h2,fun j hj=>h3 j (List.mem_of_mem_erase hj),h4⟩
   refine wpIn_seq (wpIn_cond_split (t:=true) ?_ (fun _=>wpIn_skip ?_) fun e=>by cases e)
   ·obtain⟨ρ,F,_,_,hs,_⟩:=hI3.Qq.ex;obtain⟨v,hv,hr⟩:=hs t4 (vB true) (by rw [aC,ci rfl]);have:v= .bool true:=hr;subst this;simp [Act.eval,hv]
   ·refine wpIn_block (wpIn_seq (hI3.entry hi Sb Sc hci hl q0 q1 q2 f1 f2 f3 g1 g2 g3 i1 i2 i3 l5 l6 l7 n56 ?_ ?_ fun a4 w4 hI4=> ?_))
    ·rw [aC,ce n42];exact S2
    ·rw [aC,ce n54];exact S5
    ·obtain⟨B4,hc4,hback4⟩:=hI4.base hitb;refine hbody B4 _ s o (MW hnd0 (by simp [cS,hi])) hmo _ (fun st1 a6 w6 hq6 hc6=>wpIn_mono (hq6 a6 w6 hc6) ?_) a4 w4 hc4;rintro e a5 w5 ⟨st5,he,hc5⟩;have hI5:=hback4 _ _ _ hc5;cases o with
     |next s'=>
      obtain⟨he,rfl⟩:=he;have hfin: ∃k',k'<k+1/\ ∃(seen:Array Nat) (left:List Nat) (s:σ),left.length=k'/\left.Nodup/\(∀x,x∈left↔x<l.length/\x ∉ seen)/\Inv left s/\uP B N L (S s) it kit b km l.length seen a5 w5:=by
       refine⟨k,Nat.lt_succ_self k,seen.push i,left.erase i,s', ?_,hnd.erase i,fun x=> ?_,hstep.1 s' rfl,hI5⟩;·rw [List.length_erase_of_mem hil,hlen];rfl
       ·rw [hnd.mem_erase_iff,hmem,Array.mem_push];constructor
        ·rintro ⟨q1,q2,q3⟩;exact⟨q2,fun hh=>hh.elim q3 q1⟩
        ·rintro ⟨q1,q2⟩;exact⟨fun e=>q2 (.inr e),q1,fun e=>q2 (.inl e)⟩
      rcases he with rfl|rfl;·exact hfin
      ·simp only [Exit.inBlock,if_true];exact hfin
     |done r0=>
      obtain⟨⟨n1,n2,n3⟩,hQ⟩:=he;have hq: ∃s'',Q e s''/\Conc B N L s'' a5 w5:=⟨st5,hQ (hstep.2 r0 rfl),hI5.Qq⟩;cases e with
      |normal=>exact absurd rfl n1
      |exit z=>
       have z1:z≠X:=fun e=>n2 (by rw [e]);have z2:z≠Y:=fun e=>n3 (by rw [e]);simp only [Exit.inBlock,Exit.then,ce z2,ce z1];exact hq
      |_=>exact hq
end
structure PP where
 p:Prop
 h:p
structure PI where
 a:Prop
 b:Prop
 h:a->b
inductive Cs where
 |u (j:Nat)
 |k (j:Nat)
 |pf (x:PP)
 |dv (j:Nat) (x:PI)
 |dk (j:Nat) (x:PI)
 |m (js:List Nat) (a:List Prop) (b:Prop) (h:All a->b)
instance (n:Nat):OfNat Cs n:=⟨.u n⟩
inductive Ck where
 |p (x:Prop)
 |b (x:Bool)
 |n (x:Nat)
 |dv (x:DV)
 |tv (x:TV)
 |co (x:List Code)
 |ob (x:Option Ob)
 |st (x:St)
 |hp (x:List (Nat × Option Ob))
 |ex (x:Exit)
abbrev CP:=List (Ck × Ck)
def CP.ok:CP->Prop
 |[]=>True
 |p::l=>p.1=p.2/\CP.ok l
theorem CP.eP: ∀{l m:CP},CP.ok (l++m)↔CP.ok l/\CP.ok m
 |[],m=>by simp [CP.ok]
 |p::l,m=>by simp [CP.ok,CP.eP,and_assoc]
inductive Ri where
 |eb (j:Nat) (a b:Bool)
 |eg (g:List (Nat × Bool)) (j:Nat) (a b:Bool)
 |cs (g:List (Nat × Bool)) (l:List Prop)
 |nd (g:List (Nat × Bool))
 |ng (g:List (Nat × Bool))
def Ri.P (yb:Nat->Bool):Ri->List Prop
 | .eb _ a b=>[a=b]
 | .eg g _ a b=>xU yb g [a=b]
 | .cs g l=>xU yb g l
 | .nd g=>[gP yb g]
 | .ng g=>[¬ gP yb g]
structure V6 where
 its:List Ri
 ent:Qv
 hd:List (Nat × Option Ob)
 ft:List Nat
section
variable (Fc:Cl->List SV->List (Nat × Option Ob)->TV->List (Nat × Option Ob)->Prop) (T:List (Nat × TI)) (ops:List Oper) (yb:Nat->Bool) (w:Nat->Bool->Bool) (an:Nat->iJ) (fr:Nat->Nat) (N:Nat)
def Lf (s:Slots) (o:Oper):Option (List (Nat × Bool) × List Ri):=
 match o.guard with
 |none=>some ([],[])
 |some (j,want)=>
  match ops[j]? with
  |some oj=>match oj.dst with
   |some d=>match s d with
    |some ⟨gj, .v (.one (.d (.bool b))),some j'⟩=>bif Nat.beq j j' then some ((j,want)::gj,[.eb j b (yb j)])else none
    |_=>none
   |none=>none
  |none=>none
def QK (s:Slots) (g:List (Nat × Bool)) (c a b:Operand):Option (List Ri × TV):=
 match Lu s c,Lu s a,Lu s b with
 |some ⟨gc, .v (.one (.d (.bool bc))),some jc⟩,some ⟨ga, .v (.one (.d (.bool x))),_⟩,some ⟨gb, .v (.one (.d (.bool y))),_⟩=>
  bif wu gc g && wu ga ((jc,true)::g) && wu gb ((jc,false)::g)then some ([.eg g jc bc (yb jc)], .v (.one (.d (.bool (bif w jc bc then x else y)))))else none
 |_,_,_=>none
def Nc (i:Nat) (s:Slots) (h:Hp):Option V6:=
 match ops[i]? with
 |none=>none
 |some o=>
  match Lf ops yb s o with
  |none=>none
  |some (g,c0)=>
   bif Co N o.dst then
    match o.op with
    | .pick c a b=>match QK yb w s g c a b with
     |some (cs,tv)=>some ⟨c0++cs,⟨g,tv,some i⟩,[],[]⟩
     |none=>none
    |_=>
     match an i with
     | .skip=>some ⟨c0++[.ng g],⟨g, .v (.one (.d (.bool false))),some i⟩,[],[]⟩
     |_=>
     match Ip s g o.op.operands.toList with
     |none=>none
     |some xs=>
      let ft:=foot (an i) (fr i) o.op xs
      match QH Fc T (fr i) (an i) o.op xs (ft.map h)with
      |none=>none
      |some E=>bif bZ (E.hd.map (·.1)) ft then some ⟨c0++(.cs g E.conds::(bif wH g||wH E.hd then []else [.nd g])),⟨g,E.tv,some i⟩,E.hd,ft⟩else none
   else none
def runT:List Nat->RS->Option (List Ri × RS × List (Nat × oV))
 |[],r=>some ([],r,[])
 |i::l,r=>match Nc Fc T ops yb w an fr N i r.s r.h with
  |some c=>match runT l ⟨uo r.s ((ops[i]?).bind (·.dst)) c.ent,upd r.h c.hd⟩with
   |some (c',r2,inf)=>some (c.its++c',r2,(i,⟨c.ft,c.hd.map (·.1)⟩)::inf)
   |none=>none
  |none=>none
end
section
variable {Fc:Cl->List SV->List (Nat × Option Ob)->TV->List (Nat × Option Ob)->Prop} {T:List (Nat × TI)} {ops:List Oper} {yb:Nat->Bool} {an:Nat->iJ} {fr:Nat->Nat} {N:Nat}
theorem Jr {s:Slots} {o:Oper} {g:List (Nat × Bool)} {c:List Ri} (h:Lf ops yb s o=some (g,c)):guardOf ops yb s o=some (g,c.flatMap (Ri.P yb)):=by
 unfold Lf at h;unfold guardOf;split at h;·rename_i e;cases h;rw [e];rfl
 ·rename_i j want e;rw [e];simp only;split at h
  ·rename_i oj e1;rw [e1];simp only;split at h
   ·rename_i d e2;rw [e2];simp only;split at h
    ·rename_i gj b j' e3;rw [e3];simp only;cases hb:Nat.beq j j' with
     |false=>rw [hb]at h;cases h
     |true=>rw [hb]at h;cases h;rfl
    ·cases h
   ·cases h
  ·cases h
theorem L9 {s:Slots} {g:List (Nat × Bool)} {x a b:Operand} {c:List Ri} {tv:TV} (h:QK yb (fun j _=>yb j) s g x a b=some (c,tv)): ∃cs,EH yb s g x a b=some (cs,tv)/\c.flatMap (Ri.P yb)=xU yb g cs:=by
 unfold QK at h;unfold EH;split at h
 ·rename_i gc bc jc ga xx _ gb yy _ e1 e2 e3;rw [e1,e2,e3];simp only;cases hb:(wu gc g && wu ga ((jc,true)::g) && wu gb ((jc,false)::g))with
  |false=>rw [hb]at h;cases h
  |true=>rw [hb]at h;cases h;exact⟨_,rfl,by simp [Ri.P]⟩
 ·cases h
theorem Lg {i:Nat} {s:Slots} {h:Hp} {c:V6} (hc:Nc Fc T ops yb (fun j _=>yb j) an fr N i s h=some c):core Fc T ops yb an fr N i s h=some ⟨c.its.flatMap (Ri.P yb),c.ent,c.hd,c.ft⟩:=by
 unfold Nc at hc;unfold core;split at hc;·cases hc
 ·rename_i o e;rw [e];simp only;split at hc
  ·cases hc
  ·rename_i g c0 e1;rw [Jr e1];simp only;cases hd:Co N o.dst with
   |false=>rw [hd]at hc;cases hc
   |true=>
    rw [hd]at hc;simp only [bt]at hc ⊢;split at hc
    ·rename_i x a b e2;rw [e2];simp only;split at hc
     ·rename_i cs tv e3;cases hc;obtain⟨cs',h1,h2⟩:=L9 e3;rw [h1];simp [List.flatMap_append,h2]
     ·cases hc
    ·rename_i hnp;split
     ·rename_i x a b e2;exact absurd e2 (hnp x a b)
     ·split at hc
      ·rename_i e3;cases hc;simp [List.flatMap_append,Ri.P,e3]
      ·rename_i hns;split
       ·rename_i e3;exact absurd e3 hns
       ·split at hc
        ·cases hc
        ·rename_i xs e4;rw [e4];simp only at hc ⊢;split at hc
         ·cases hc
         ·rename_i E e5;rw [e5];simp only;cases hs:bZ (E.hd.map (·.1)) (foot (an i) (fr i) o.op xs)with
          |false=>rw [hs]at hc;cases hc
          |true=>
           rw [hs]at hc;simp only [bt]at hc ⊢;cases hc;cases hg:(wH g||wH E.hd)<;>simp [List.flatMap_append,Ri.P]
theorem wK: ∀{l:List Nat} {r r':RS} {its:List Ri} {inf:List (Nat × oV)},runT Fc T ops yb (fun j _=>yb j) an fr N l r=some (its,r',inf)->wX Fc T ops yb an fr N l r=some (its.flatMap (Ri.P yb),r',inf)
 |[],r,r',its,inf,h=>by cases h;rfl
 |i::l,r,r',its,inf,h=>by
  unfold runT at h;unfold wX;split at h
  ·rename_i c e;rw [Lg e];simp only;split at h
   ·rename_i c' r2 inf' e2;cases h;rw [wK e2];simp [List.flatMap_append]
   ·cases h
  ·cases h
theorem qh: ∀{l:List Nat} {r r':RS} {cs:List Prop} {inf:List (Nat × oV)},wX Fc T ops yb an fr N l r=some (cs,r',inf)->run Fc T ops yb an fr N l r=some (cs,r')
 |[],r,r',cs,inf,h=>by cases h;rfl
 |i::l,r,r',cs,inf,h=>by
  unfold wX at h;unfold run step;split at h
  ·rename_i c e
   try rw [e]
   simp only;split at h
   ·rename_i c' r2 inf' e2;cases h
    first|rw [qh e2]|simp only [qh e2]
   ·cases h
  ·cases h
end
def FO (f:Fin) (h:Hp):CV->List (Nat × Nat)
 | .own b _ len=>bif fK b f.frz then(match h b with
   |some (some (.arr _ _ len' _))=>[(len,len')]
   |some (some (.rows _ _ len' _ none))=>[(len,len')]
   |_=>[])else []
 | .fn _ _ n cap=>(List.range n).flatMap fun j=>FO f h (cap j)
 |_=>[]
def RZ (f:Fin) (h:Hp) (s:SV):List (Nat × Nat):=(cellsOf s).flatMap (FO f h)
def Ug (f:Fin) (h:Hp):TV->List (Nat × Nat)
 | .v s=>RZ f h s
 | .eB l=>l.flatMap (RZ f h)
def aaS (f:Fin) (h:Hp):Ob->List (Nat × Nat)
 | .cells _ cs=>cs.flatMap (FO f h)
 | .rows _ _ _ _ (some (_,_,c))=>FO f h c
 | .gm _ _ _ _ (some (_,c))=>FO f h c
 | .loop _ _ sl=>sl.flatMap fun p=>Ug f h p.2
 |_=>[]
def Vf (f:Fin) (h:Hp):List (Nat × Nat)->List (Nat × Nat)
 |[]=>[]
 |(b,_)::l=>(match h b with
  |some (some ob)=>bif fK b f.frz then []else aaS f h ob
  |_=>[])++Vf f h l
def Bn (l:List (Nat × Nat)):Prop:= ∀e∈l,e.1=e.2
theorem Bn.app {l m:List (Nat × Nat)}:Bn (l++m)↔Bn l/\Bn m:=by simp [Bn,or_imp,forall_and]
section
variable {f:Fin} {h:Hp}
theorem Kb {α:Type} {g:α->Option (List Prop × CV)} {e:α->List (Nat × Nat)} (hg: ∀x p c,g x=some (p,c)->Bn (e x)->All p): ∀{l:List α} {p:List Prop} {cs:List CV},Kl (l.map g)=some (p,cs)->Bn (l.flatMap e)->All p
 |[],p,cs,hs,_=>by cases hs;trivial
 |x::l,p,cs,hs,he=>by
  rw [List.flatMap_cons,Bn.app]at he;rw [cL]at hs;cases hx:g x with
  |none=>rw [hx]at hs;cases hs
  |some y=>
   obtain⟨q,c⟩:=y;rw [hx]at hs;simp only [Kl]at hs;split at hs
   ·rename_i q' cs' e2;cases hs;rw [aW];exact⟨hg x q c hx he.1,Kb hg e2 he.2⟩
   ·cases hs
theorem Ag: ∀{c c':CV} {p:List Prop},nQ f h c=some (p,c')->Bn (FO f h c)->All p:=by
 intro c;induction c with
 |d x=>intro c' p hf _;cases hf;trivial
 |ptr b off=>
  intro c' p hf _;unfold nQ at hf;cases hb:fK b f.frz with
  |true=>
   simp only [hb,bt]at hf;split at hf
   ·split at hf
    ·cases hf;trivial
    ·cases hf
   ·cases hf;trivial
   ·cases hf
  |false=>
   simp only [hb,bu]at hf;split at hf;·cases hf;trivial
   ·cases hf
 |opt b e i off=>
  intro c' p hf _;unfold nQ at hf;cases hb:fK b f.frz with
  |true=>simp [hb]at hf
  |false=>
   simp only [hb,bu]at hf;split at hf;·cases hf;trivial
   ·cases hf
 |own b nn len=>
  intro c' p hf he;unfold nQ at hf;unfold FO at he;cases hb:fK b f.frz with
  |true=>
   simp only [hb,bt]at hf he;split at hf
   ·rename_i e1;rw [e1]at he;cases hf;exact⟨he (_,_) (cF.2 rfl),trivial⟩
   ·rename_i e1;rw [e1]at he;cases hf;exact⟨he (_,_) (cF.2 rfl),trivial⟩
   ·cases hf
  |false=>
   simp only [hb,bu]at hf;split at hf;·cases hf;trivial
   ·cases hf
 |mp b=>
  intro c' p hf _;unfold nQ at hf;cases hb:fK b f.frz with
  |true=>simp [hb]at hf
  |false=>
   simp only [hb,bu]at hf;split at hf;·cases hf;trivial
   ·cases hf
 |yl b=>
  intro c' p hf _;unfold nQ at hf;cases hb:fK b f.frz with
  |true=>simp [hb]at hf
  |false=>
   simp only [hb,bu]at hf;split at hf;·cases hf;trivial
   ·cases hf
 |fn g nf n cap ih=>
  intro c' p hf he;unfold nQ at hf;unfold FO at he;split at hf
  ·rename_i q cs e1;cases hf;exact Kb (g:=fun j=>nQ f h (cap j)) (e:=fun j=>FO f h (cap j)) (fun j q c hq hqe=>ih j hq hqe) e1 he
  ·cases hf
theorem Fw: ∀{cs cs':List CV} {p:List Prop},Ei f h cs=some (p,cs')->Bn (cs.flatMap (FO f h))->All p
 |[],_,p,hf,_=>by cases hf;trivial
 |c::cs,_,p,hf,he=>by
  rw [List.flatMap_cons,Bn.app]at he;unfold Ei at hf;split at hf;·rename_i e1 e2;cases hf;rw [aW];exact⟨Ag e1 he.1,Fw e2 he.2⟩
  ·cases hf
theorem KJ {s s':SV} {p:List Prop} (hf:CZ f h s=some (p,s')) (he:Bn (RZ f h s)):All p:=by
 cases s with
 |one c=>
  unfold CZ at hf;simp only at hf;split at hf;·rename_i e;cases hf;exact Ag e (by simpa [RZ,cellsOf]using he)
  ·cases hf
 |agg cs=>
  unfold CZ at hf;simp only at hf;split at hf;·rename_i e;cases hf;exact Fw e he
  ·cases hf
theorem Hr: ∀{cs cs':List SV} {p:List Prop},wB f h cs=some (p,cs')->Bn (cs.flatMap (RZ f h))->All p
 |[],_,p,hf,_=>by cases hf;trivial
 |c::cs,_,p,hf,he=>by
  rw [List.flatMap_cons,Bn.app]at he;unfold wB at hf;split at hf;·rename_i e1 e2;cases hf;rw [aW];exact⟨KJ e1 he.1,Hr e2 he.2⟩
  ·cases hf
theorem JM {s s':TV} {p:List Prop} (hf:zf f h s=some (p,s')) (he:Bn (Ug f h s)):All p:=by
 cases s with
 |v c=>
  unfold zf at hf;simp only at hf;split at hf;·rename_i e;cases hf;exact KJ e he
  ·cases hf
 |eB cs=>
  unfold zf at hf;simp only at hf;split at hf;·rename_i e;cases hf;exact Hr e he
  ·cases hf
theorem Gy: ∀{cs cs':List (Nat × TV)} {p:List Prop},xD f h cs=some (p,cs')->Bn (cs.flatMap fun p=>Ug f h p.2)->All p
 |[],_,p,hf,_=>by cases hf;trivial
 |(t,c)::cs,_,p,hf,he=>by
  rw [List.flatMap_cons,Bn.app]at he;unfold xD at hf;split at hf;·rename_i e1 e2;cases hf;rw [aW];exact⟨JM e1 he.1,Gy e2 he.2⟩
  ·cases hf
theorem Sr {o o':Ob} {p:List Prop} (hf:lX f h o=some (p,o')) (he:Bn (aaS f h o)):All p:=by
 unfold lX at hf;split at hf
 ·split at hf
  ·rename_i e;cases hf;exact Fw e he
  ·cases hf
 ·cases hf;trivial
 ·cases hf;trivial
 ·cases hf;trivial
 ·cases hf;trivial
 ·split at hf
  ·rename_i e;cases hf;exact Ag e he
  ·cases hf
 ·rename_i m;revert hf;generalize (m.ms.all _)=b;cases b with
  |true=>intro hf;cases hf;trivial
  |false=>intro hf;cases hf
 ·split at hf
  ·rename_i e;cases hf;exact Gy e he
  ·cases hf
 ·cases hf;trivial
 ·split at hf
  ·rename_i e;cases hf;exact Ag e he
  ·cases hf
 ·cases hf;trivial
 ·rename_i b l e;cases hb:fK b f.frz with
  |true=>simp [hb]at hf
  |false=>
   simp only [hb,bu]at hf;split at hf;·cases hf;trivial
   ·cases hf
theorem zL: ∀{l:List (Nat × Nat)} {p:List Prop} {m:List (Nat × Option Ob)},Br f h l=some (p,m)->Bn (Vf f h l)->All p
 |[],p,m,hf,_=>by cases hf;trivial
 |(b,b')::l,p,m,hf,he=>by
  unfold Vf at he;rw [Bn.app]at he;unfold Br at hf;split at hf;·rename_i e1 e2;cases hf;exact zL e2 he.2
  ·rename_i ob q m' e1 e2;rw [e1]at he;cases hb:fK b f.frz with
   |true=>simp only [hb,bt]at hf;cases hf;exact zL e2 he.2
   |false=>
    simp only [hb,bu]at hf he;split at hf;·rename_i e3;cases hf;rw [aW];exact⟨Sr e3 he.1,zL e2 he.2⟩
    ·cases hf
  ·cases hf
def Jz (f:Fin) (h:Hp) (s:Slots):List Nat->List (Nat × Nat) × List (Nat × TV)
 |[]=>([],[])
 |t::ts=>match s t with
  |some ⟨[],tv,_⟩=>match zf f h tv with
   |some (_,tv')=>match Jz f h s ts with|(e,l)=>(Ug f h tv++e,(t,tv')::l)
   |none=>Jz f h s ts
  |_=>Jz f h s ts
theorem wJ {s:Slots}: ∀{ts:List Nat} {e:List (Nat × Nat)} {l:List (Nat × TV)},Jz f h s ts=(e,l)->Bn e-> ∃ts' p,EN f h s ts'=some (p,l)/\All p
 |[],e,l,ha,_=>by cases ha;exact⟨[],[],rfl,trivial⟩
 |t::ts,e,l,ha,he=>by
  unfold Jz at ha;split at ha
  ·rename_i tv src e1;split at ha
   ·rename_i p tv' e2;cases hr:Jz f h s ts with
    |mk e' l'=>
     rw [hr]at ha;cases ha;rw [Bn.app]at he;obtain⟨ts',q,h1,h2⟩:=wJ hr he.2;refine⟨t::ts',p++q, ?_,aW.2 ⟨JM e2 he.1,h2⟩⟩;unfold EN;rw [e1,h1];simp only [e2]
   ·exact wJ ha he
  ·exact wJ ha he
def Iu (L:List Nat) (fz sk:List Nat) (ren:List (Nat × Nat)) (r:RS):Option (List (Nat × Nat) × St):=
 bif Dt L ⟨fz,ren⟩then
  match Br ⟨fz,ren⟩ r.h ren with
  |some (_,hp)=>match Jz ⟨fz,ren⟩ r.h r.s sk with|(e,sl)=>some (e++Vf ⟨fz,ren⟩ r.h ren,⟨sl,hp⟩)
  |none=>none
 else none
theorem mR {L fz sk:List Nat} {ren:List (Nat × Nat)} {r:RS} {e:List (Nat × Nat)} {st:St} (ha:Iu L fz sk ren r=some (e,st)) (he:Bn e) (cs:List Prop) (hcs:All cs): ∃ts cs',finish L ⟨fz,ren⟩ ts cs r=some (cs',st)/\All cs':=by
 unfold Iu at ha;cases hb:Dt L ⟨fz,ren⟩with
 |false=>rw [hb]at ha;cases ha
 |true=>
  rw [hb]at ha;simp only [bt]at ha;split at ha
  ·rename_i q hp e1;cases hr:Jz ⟨fz,ren⟩ r.h r.s sk with
   |mk e' sl=>
    rw [hr]at ha;cases ha;rw [Bn.app]at he;obtain⟨ts,p,h1,h2⟩:=wJ hr he.1;refine⟨ts,cs++(p++q), ?_, ?_⟩
    ·unfold finish;rw [hb];simp only [bt,h1,e1]
    ·rw [aW,aW];exact⟨hcs,h2,zL e1 he.2⟩
  ·cases ha
end
def okO (f:Fin) (h:Hp) (b:Nat):Bool:=match h b with
 |some (some ob)=>bif fK b f.frz then true else(match lX f h ob with|some _=>true|none=>false)
 |some none=>true
 |none=>false
def V9 (fz:List Nat) (h:Hp):Nat->List Nat->List Nat
 |0,ks=>ks
 |n+1,ks=>(fun ks'=>bif Nat.beq ks'.length ks.length then ks else V9 fz h n ks') (ks.filter (okO ⟨fz,ks.map fun b=>(b,b)⟩ h))
def NG (L fz sk ks:List Nat) (r:RS):Option (List (Nat × Nat) × St):=
 match Iu L fz sk (ks.map fun b=>(b,b)) r with
 |some x=>some x
 |none=>Iu L fz sk ((V9 fz r.h 30 ks).map fun b=>(b,b)) r
theorem BB {L fz sk ks:List Nat} {r:RS} {e:List (Nat × Nat)} {st:St} (ha:NG L fz sk ks r=some (e,st)): ∃ren,Iu L fz sk ren r=some (e,st):=by
 unfold NG at ha;split at ha;·rename_i x h;cases ha;exact⟨_,h⟩
 ·exact⟨_,ha⟩
structure RX where
 an:List (Nat × iJ):=[]
 fr:List (Nat × Nat):=[]
 ov:List (Nat × Bool × Nat):=[]
 sk:List Nat:=[]
 fz:List Nat:=[]
 ts:List Nat:=[]
 hs:List Nat:=[]
def sU (x:RX) (an:List (Nat × iJ)):Nat->iJ:=fun i=>bif fK i x.sk then .skip else match get x.an i with|some a=>a|none=>anf an i
def Uy (j:Nat):List Ri->Bool
 |[]=>false
 | .eb i a _::l=>bif Nat.beq i j then a else Uy j l
 | .eg _ i a _::l=>bif Nat.beq i j then a else Uy j l
 |_::l=>Uy j l
def YH (ov:List (Nat × Bool × Nat)) (l:Option (List Ri × RS × List (Nat × oV))):Nat->Bool:=fun j=>
 match get ov j with
 |some (v,_)=>v
 |none=>match l with|some (its,_)=>Uy j its|none=>false
def VU (ov:List (Nat × Bool × Nat)) (j:Nat) (b:Bool):Bool:=match get ov j with|some (v,_)=>v|none=>b
def xR:List Nat->List Nat->List Nat
 |[],acc=>acc
 |x::l,acc=>bif fK x acc then xR l acc else xR l (x::acc)
def dstsOf:List Oper->List Nat
 |[]=>[]
 |o::l=>match o.dst with|some d=>d::dstsOf l|none=>dstsOf l
def RN:List (Nat × oV)->List Nat
 |[]=>[]
 |(_,i)::l=>i.wr++RN l
structure RR where
 its:List Ri
 ok:Bool
 yb:Nat->Bool
 eq:List (Nat × Nat)
 st:St
section
variable (Fc:Cl->List SV->List (Nat × Option Ob)->TV->List (Nat × Option Ob)->Prop) (T:List (Nat × TI)) (ops:Array Oper) (dr:Bool) (N:Nat) (L:List Nat)
def idR (l:List Nat):List (Nat × Nat):=l.map fun b=>(b,b)
def VW (x:RX) (st:St) (yb:Nat->Bool) (l:Option (List Ri × RS × List (Nat × oV))):Option RR:=
 match l with
 |some (its,r,inf)=>
  match NG L x.fz (match x.ts with|[]=>xR (dstsOf ops.toList++jY st.slots) []|ts=>ts) (match x.hs with|[]=>xR (RN inf++jY st.heap) []|hs=>hs) r with
  |some (e,st')=>some ⟨its,(bif dr then(xW ops.toList (fun i=>match get (Z0 ops) i with|some l=>l|none=>[]) ops.size && l8 ops.toList (rX inf) (fun i=>match get (Z0 ops) i with|some l=>l|none=>[]) ops.size)else true),yb,e,st'⟩
  |none=>none
 |none=>none
def TP (x:RX) (an:List (Nat × iJ)) (st:St):Option RR:=
 let yb:=YH x.ov (runT Fc T ops.toList (fun _=>false) (VU x.ov) (sU x an) (K6 x.fr) N (List.range ops.size) (lm st))
 VW ops dr L x st yb (runT Fc T ops.toList yb (fun j _=>yb j) (sU x an) (K6 x.fr) N (List.range ops.size) (lm st))
end
def WH (Fc:Cl->List SV->List (Nat × Option Ob)->TV->List (Nat × Option Ob)->Prop) (T:List (Nat × TI)) (ops:List Oper) (yb:Nat->Bool) (w:Nat->Bool->Bool) (an:Nat->iJ) (fr:Nat->Nat) (N:Nat):List Nat->RS->Nat
 |[],_=>999
 |i::l,r=>match Nc Fc T ops yb w an fr N i r.s r.h with
  |some c=>WH Fc T ops yb w an fr N l ⟨uo r.s ((ops[i]?).bind (·.dst)) c.ent,upd r.h c.hd⟩
  |none=>i
section
variable {rd:Option Nat} {P:Program} {B:Base} {N:Nat} {L:List Nat} {T:List (Nat × TI)} {Q:Exit->St->Prop} {st st':St}
theorem QN (hT:kg P T) (hm:P.follows .mixedOrders=true) {id:Nat} {ops:Array Oper} {dr:Bool} {x:RX} {an:List (Nat × iJ)} {R:RR} (he:TP (vF P) T ops dr N L x an st=some R) (hok:R.ok=true) (heq:Bn R.eq)
  (hc: ∀it∈R.its,All (it.P R.yb)) (hQ:Q .normal R.st):jV rd P B N L (.region id ops dr) Q st:=by
 unfold TP at he;simp only at he;generalize YH x.ov (runT (vF P) T ops.toList (fun _=>false) (VU x.ov) (sU x an) (K6 x.fr) N (List.range ops.size) (lm st))=yb at he;unfold VW at he;split at he
 ·rename_i its r inf hrun;split at he
  ·rename_i e st1 hfin;cases he;simp only at hok heq hc hQ;have hall:All (its.flatMap (Ri.P yb)):=by
    clear hrun hfin hQ;induction its with
    |nil=>trivial
    |cons i l ih=>rw [List.flatMap_cons,aW];exact⟨hc i (by simp),ih fun j hj=>hc j (by simp [hj])⟩
   have hI:=wK hrun;obtain⟨ren,hfin⟩:=BB hfin;obtain⟨ts,cs',hf,hcs⟩:=mR hfin heq _ hall;cases dr with
   |false=>
    refine Ec hT {yb:=yb,an:=sU x an,fr:=K6 x.fr,fin:=⟨x.fz,ren⟩,ts:=ts} (cs:=cs') ?_ hcs hQ;unfold K9;simp only;rw [qh hI];exact hf
   |true=>
    refine tV hT hm {yb:=yb,an:=sU x an,fr:=K6 x.fr,fin:=⟨x.fz,ren⟩,ts:=ts} (Z0 ops) (cs:=cs') ?_ hcs hQ;unfold Rs;simp only;rw [hI];simp only;simp only [bt]at hok;exact(congrArg (fun b:Bool=>bif b then finish L ⟨x.fz,ren⟩ ts (its.flatMap (Ri.P yb)) r else none) hok).trans hf
  ·cases he
 ·cases he
end
section
variable (Fc:Cl->List SV->List (Nat × Option Ob)->TV->List (Nat × Option Ob)->Prop) (T:List (Nat × TI)) (ops:Array Oper) (N:Nat) (L:List Nat)
def MI (l:List Nat) (x:RX) (an:List (Nat × iJ)) (st:St):Option RR:=
 let yb:=YH x.ov (runT Fc T ops.toList (fun _=>false) (VU x.ov) (sU x an) (K6 x.fr) N l (lm st))
 match runT Fc T ops.toList yb (fun j _=>yb j) (sU x an) (K6 x.fr) N l (lm st)with
 |some (its,r,inf)=>
  match NG L x.fz (xR (dstsOf (l.filterMap fun i=>ops.toList[i]?)++jY st.slots) []) (xR (RN inf++jY st.heap) []) r with
  |some (e,st')=>some ⟨its,true,yb,e,st'⟩
  |none=>none
 |none=>none
end
section
variable {P:Program} {N:Nat} {L:List Nat} {T:List (Nat × TI)} {st:St}
theorem Nz {ops:Array Oper} {l:List Nat} {x:RX} {an:List (Nat × iJ)} {R:RR} (he:MI (vF P) T ops N L l x an st=some R) (heq:Bn R.eq)
  (hc: ∀it∈R.its,All (it.P R.yb)): ∃(y:vv) (cs:List Prop),Pj (vF P) T ops l N L y st=some (cs,R.st)/\All cs:=by
 unfold MI at he;simp only at he;generalize YH x.ov (runT (vF P) T ops.toList (fun _=>false) (VU x.ov) (sU x an) (K6 x.fr) N l (lm st))=yb at he;split at he
 ·rename_i its r inf hrun;split at he
  ·rename_i e st1 hfin;cases he;simp only at heq hc;have hall:All (its.flatMap (Ri.P yb)):=by
    clear hrun hfin;induction its with
    |nil=>trivial
    |cons i l ih=>rw [List.flatMap_cons,aW];exact⟨hc i (by simp),ih fun j hj=>hc j (by simp [hj])⟩
   have hI:=wK hrun;obtain⟨ren,hfin⟩:=BB hfin;obtain⟨ts,cs',hf,hcs⟩:=mR hfin heq _ hall;refine⟨{yb:=yb,an:=sU x an,fr:=K6 x.fr,fin:=⟨x.fz,ren⟩,ts:=ts},cs', ?_,hcs⟩;unfold Pj;simp only;rw [qh hI];exact hf
  ·cases he
 ·cases he
end
def SX (l:List (Nat × Nat)):CP:=l.map fun e=>(.n e.1, .n e.2)
theorem rZ: ∀{l:List (Nat × Nat)},CP.ok (SX l)->Bn l
 |[],_=>fun _ h=>by simp at h
 |e::l,h=>fun x hx=>by
  rcases eh.1 hx with rfl|hx;·exact Ck.n.inj h.1
  ·exact rZ (l:=l) h.2 x hx
def Nj (g:Nat->CP × DV) (c':Nat->DV):Nat->CP
 |0=>[]
 |n+1=>(.dv (g n).2, .dv (c' n))::((g n).1++Nj g c' n)
theorem FH {g:Nat->CP × DV} {c':Nat->DV}: ∀{n:Nat},(Nj g c' n).ok-> ∀j,j<n->(g j).1.ok/\(g j).2=c' j
 |0,_,j,hj=>by omega
 |n+1,h,j,hj=>by
  obtain⟨h1,h2⟩:=h;rw [CP.eP]at h2;by_cases e:j=n;·subst e;exact⟨h2.1,Ck.dv.inj h1⟩
  ·exact FH h2.2 j (by omega)
def Mf:DV->DV->CP × DV
 | .sl qQ e' l' f',x=>match x with
  | .sl nn e l f=>bif Nat.beq e 0 then([(.n l, .n 0),(.n l', .n 0)], .sl (match qQ with|none=>none|some _=>nn) e' l' f')
   else([], .sl (match qQ with|none=>none|some _=>nn) e l f)
  |x=>([],x)
 | .ip n' c',x=>match x with
  | .ip n c=>((.b (Nat.ble n' n), .b true)::Nj (fun j=>Mf (c' j) (c j)) c' n', .ip n' c')
  |x=>([],x)
 | .fn f' n' c',x=>match x with
  | .fn f n c=>((.n n, .n n')::Nj (fun j=>Mf (c' j) (c j)) c' n', .fn f n' c')
  |x=>([],x)
 |_,x=>([],x)
def MB (t x:CV):CP × CV:=
 match t,x with
 | .d t, .d x=>((Mf t x).1, .d (Mf t x).2)
 | .own _ false _, .own b _ n=>([], .own b false n)
 |_,x=>([],x)
def F5:List CV->List CV->CP × List CV
 |t::ts,x::xs=>((MB t x).1++(F5 ts xs).1,(MB t x).2::(F5 ts xs).2)
 |_,xs=>([],xs)
def LU (t x:SV):CP × SV:=
 match t,x with
 | .one t, .one x=>((MB t x).1, .one (MB t x).2)
 | .agg ts, .agg xs=>((F5 ts xs).1, .agg (F5 ts xs).2)
 |_,x=>([],x)
def uX:List SV->List SV->CP × List SV
 |t::ts,x::xs=>((LU t x).1++(uX ts xs).1,(LU t x).2::(uX ts xs).2)
 |_,xs=>([],xs)
def K5 (t x:TV):CP × TV:=
 match t,x with
 | .v t, .v x=>((LU t x).1, .v (LU t x).2)
 | .eB ts, .eB xs=>((uX ts xs).1, .eB (uX ts xs).2)
 |_,x=>([],x)
def R8 (t x:Option Ob):CP × Option Ob:=
 match t,x with
 |some (.cells _ ts),some (.cells E xs)=>((F5 ts xs).1,some (.cells E (F5 ts xs).2))
 |none,_=>([],none)
 |_,x=>([],x)
def rG:List (Nat × TV)->List (Nat × TV)->CP × List (Nat × TV)
 |(_,t)::ts,(k,x)::xs=>((K5 t x).1++(rG ts xs).1,(k,(K5 t x).2)::(rG ts xs).2)
 |_,xs=>([],xs)
def tK:List (Nat × Option Ob)->List (Nat × Option Ob)->CP × List (Nat × Option Ob)
 |(_,t)::ts,(k,x)::xs=>((R8 t x).1++(tK ts xs).1,(k,(R8 t x).2)::(tK ts xs).2)
 |_,xs=>([],xs)
theorem aaM (nn qQ:Option Bool):(match qQ with|none=>none|some _=>nn)=none\/(match qQ with|none=>none|some _=>nn)=nn:=by cases qQ<;>simp
theorem Ut: ∀{t x:DV},(Mf t x).1.ok->lQ x (Mf t x).2:=by
 intro t;induction t with
 |sl qQ e' l' f' _=>
  intro x h;cases x with
  |sl nn e l f=>
   simp only [Mf]at h ⊢;cases he:Nat.beq e 0 with
   |true=>
    simp only [he,bt]at h ⊢;have h1:l=0:=Ck.n.inj h.1;have h2:l'=0:=Ck.n.inj h.2.1;subst h1;subst h2;rintro F w v ⟨a,cap,hv,g1,g2,g3,g4,g5⟩;refine⟨a,cap,hv, ?_, ?_,g3,g4,fun ad ha=> ⟨fun hh=>absurd hh (by omega),fun i hi=>by omega⟩⟩
    ·intro hh;cases qQ with
     |none=>cases hh
     |some b=>exact g1 hh
    ·intro hh;cases qQ with
     |none=>cases hh
     |some b=>exact g2 hh
   |false=>
    simp only [he,bu];exact lQ.sl (aaM _ _) fun _ _ _ _=> .refl _
  |_=>exact .refl _
 |ip n' c' ih=>
  intro x h;cases x with
  |ip n c=>
   obtain⟨h1,h2⟩:=h;have hc:=FH h2;refine lQ.ip' (cj (Ck.b.inj h1)) fun j hj=> ?_;have:=ih j (x:=c j) (hc j hj).1
   rwa [(hc j hj).2]at this
  |_=>exact .refl _
 |fn f' n' c' ih=>
  intro x h;cases x with
  |fn f n c=>
   obtain⟨h1,h2⟩:=h;have hn:n=n':=Ck.n.inj h1;subst hn;have hc:=FH h2;rintro F w v ⟨vs,hv,hl,hr⟩;refine⟨vs,hv,hl,fun j u hu=> ?_⟩;have hj:j<n:=by rw [<-hl];exact(List.getElem?_eq_some_iff.1 hu).1
   have:=ih j (x:=c j) (hc j hj).1;rw [(hc j hj).2]at this;exact this F w u (hr j u hu)
  |_=>exact .refl _
 |_=>intro x _;exact .refl _
theorem M0 {t x:CV} (h:(MB t x).1.ok):qm x (MB t x).2:=by
 unfold MB at h ⊢;split;·exact qm.d (Ut h)
 ·rintro ρ F w v (⟨k,base,cap,h1,h2⟩|⟨h0,h1,h2,h3⟩)
  ·exact .inl ⟨k,base,cap,h1,h2⟩
  ·exact .inr ⟨rfl,h1,h2,h3⟩
 ·exact .refl _
theorem Iw: ∀{ts xs:List CV},(F5 ts xs).1.ok->KI xs (F5 ts xs).2
 |t::ts,x::xs,h=>by
  simp only [F5,CP.eP]at h;exact⟨M0 h.1,Iw h.2⟩
 |[],xs,_=>by
  have: ∀l:List CV,KI l l:=fun l=>by induction l with|nil=>trivial|cons c l ih=>exact⟨.refl _,ih⟩
  simpa [F5]using this xs
 |_::_,[],_=>trivial
theorem Nt {t x:SV} (h:(LU t x).1.ok):zw x (LU t x).2:=by
 unfold LU at h ⊢;split;·exact zw.one (M0 h)
 ·exact zw.agg (Iw h)
 ·exact .refl _
theorem Ey: ∀{ts xs:List SV},(uX ts xs).1.ok->En xs (uX ts xs).2
 |t::ts,x::xs,h=>by
  simp only [uX,CP.eP]at h;exact⟨Nt h.1,Ey h.2⟩
 |[],xs,_=>by
  have: ∀l:List SV,En l l:=fun l=>by induction l with|nil=>trivial|cons c l ih=>exact⟨.refl _,ih⟩
  simpa [uX]using this xs
 |_::_,[],_=>trivial
theorem Nn {t x:TV} (h:(K5 t x).1.ok):Ca x (K5 t x).2:=by
 unfold K5 at h ⊢;split;·exact Ca.v (Nt h)
 ·exact Ca.eB (Ey h)
 ·exact .refl _
theorem Vs {t x:Option Ob} (h:(R8 t x).1.ok):G6 x (R8 t x).2:=by
 unfold R8 at h ⊢;split;·exact mO (Iw h)
 ·cases x<;>trivial
 ·exact .refl _
theorem Gh: ∀{ts xs:List (Nat × TV)},(rG ts xs).1.ok-> ∀t tv',get (rG ts xs).2 t=some tv'-> ∃tv,get xs t=some tv/\Ca tv tv'
 |(_,y)::ts,(k,x)::xs,h,t,tv',ht=>by
  simp only [rG,CP.eP]at h;simp only [rG,aC]at ht;rw [aC];split at ht;·rename_i e;cases ht;rw [ci e];exact⟨x,rfl,Nn h.1⟩
  ·rename_i e;rw [ce e];exact Gh h.2 t tv' ht
 |[],xs,_,t,tv',ht=> ⟨tv',by simpa [rG]using ht, .refl _⟩
 |_::_,[],_,t,tv',ht=>by simp [rG,get]at ht
theorem zN: ∀{ts xs:List (Nat × Option Ob)},(tK ts xs).1.ok->oo xs (tK ts xs).2
 |(_,y)::ts,(k,x)::xs,h=>by
  simp only [tK,CP.eP]at h;exact⟨rfl,Vs h.1,zN h.2⟩
 |[],xs,_=>by simpa [tK]using oo.refl xs
 |_::_,[],_=>trivial
def aap (b:Nat):List (Nat × Nat)->Nat
 |[]=>b
 |(a,c)::l=>bif Nat.beq c b then a else aap b l
def RL (rn:List (Nat × Nat)):List Nat->List (Nat × Nat)
 |[]=>[]
 |b::l=>(aap b rn,b)::RL rn l
def narrow (L fz:List Nat) (rn:List (Nat × Nat)) (tg st:St):Option CP:=
 match Iu L fz (jY tg.slots) (RL rn (jY tg.heap)) (lm st)with
 |some (e,s1)=>some (SX e++((rG tg.slots s1.slots).1++((tK tg.heap s1.heap).1++[(.st ⟨(rG tg.slots s1.slots).2,(tK tg.heap s1.heap).2⟩, .st tg)])))
 |none=>none
section
variable {B:Base} {N:Nat} {L:List Nat} {st tg:St}
theorem Vx {s1:St} {ts:List (Nat × TV)} {hs:List (Nat × Option Ob)} (h1:(rG ts s1.slots).1.ok) (h2:(tK hs s1.heap).1.ok):jl B N L s1 ⟨(rG ts s1.slots).2,(tK hs s1.heap).2⟩:=by
 intro a w hc;obtain⟨⟨ρ,F,hfr,hhi,hs',dn⟩,hid,sz⟩:=hc;refine⟨⟨ρ,F,hfr,hhi.le (zN h2),fun t tv ht=> ?_,dn⟩,hid,sz⟩;obtain⟨tv0,g1,g2⟩:=Gh h1 t tv ht;obtain⟨v,hv,hr⟩:=hs' t tv0 g1;exact⟨v,hv,g2 _ _ _ _ hr⟩
theorem iP {fz:List Nat} {rn:List (Nat × Nat)} {c:CP} (h:narrow L fz rn tg st=some c) (hc:c.ok):jl B N L st tg:=by
 unfold narrow at h;split at h
 ·rename_i e s1 e1;cases h;rw [CP.eP,CP.eP,CP.eP]at hc;have hq:=rZ hc.1;have he:(⟨(rG tg.slots s1.slots).2,(tK tg.heap s1.heap).2⟩:St)=tg:=Ck.st.inj hc.2.2.2.1;obtain⟨ts,cs',hf,hcs⟩:=mR e1 hq [] trivial;exact he ▸ jl.trans (jl.fin _ ts hf hcs) (Vx hc.2.1 hc.2.2.1)
 ·cases h
end
inductive Kf where
 |sq (y:Code)
 |bl (id:Nat)
 |lo (c:Code) (n:Nat)
 |sc
section
variable (rd:Option Nat) (P:Program) (B:Base) (N:Nat) (L:List Nat)
def post:List Kf->(Exit->St->Prop)->Exit->St->Prop
 |[],Q=>Q
 | .sq y::K,Q=>fun e st=>match e with| .normal=>jV rd P B N L y (post K Q) st|e=>post K Q e st
 | .bl id::K,Q=>fun e st=>match e with| .exit i=>bif Nat.beq i id then post K Q .normal st else post K Q (.exit i) st|e=>post K Q e st
 | .lo c n::K,Q=>fun e st=>match e with| .normal=>LoopN rd P B N L c (post K Q) n st|e=>post K Q e st
 | .sc::K,Q=>fun e st=>(∀l,e≠ .goto l)/\post K Q e st
def QI (Q:Exit->St->Prop) (e:Exit) (st:St):Prop:= ∃s',jl B N L st s'/\Q e s'
end
inductive CE where
 |c (x:Code)
 |e (x:Exit)
inductive Foc where
 |at(c:Code) (K:List Kf)
 |fin (e:Exit)
 |bad
def V8:List Oper->Bool
 |[]=>false
 |[o]=>match o.op with| .range _ _=>true|_=>false
 |_::l=>V8 l
def Zn (x y:Code):Bool:=match y with
 | .block _ (.loop _)=>match x with| .region _ ops false=>V8 ops.toList|_=>false
 |_=>false
def go:Nat->CE->List Kf->Foc
 |0,_,_=> .bad
 |n+1, .c c,K=>match c with
  | .seq x y=>bif Zn x y then .at (.seq x y) K else go n (.c x) (.sq y::K)
  | .block id x=>go n (.c x) (.bl id::K)
  | .skip=>go n (.e .normal) K
  | .label _=>go n (.e .normal) K
  | .exit i=>go n (.e (.exit i)) K
  | .ret=>go n (.e .ret) K
  | .goto l=>go n (.e (.goto l)) K
  |c=> .at c K
 |n+1, .e e,K=>match K with
  |[]=> .fin e
  | .sq y::K=>match e with| .normal=>go n (.c y) K|e=>go n (.e e) K
  | .bl id::K=>match e with| .exit i=>bif Nat.beq i id then go n (.e .normal) K else go n (.e (.exit i)) K|e=>go n (.e e) K
  | .lo c m::K=>match e with| .normal=>(match m with|0=> .bad|m+1=>go n (.c c) (.lo c m::K))|e=>go n (.e e) K
  | .sc::K=>match e with| .goto _=> .bad|e=>go n (.e e) K
theorem DR {rd:Option Nat} {P:Program} {B:Base} {N:Nat} {L:List Nat} {c:Code} {Q Q':Exit->St->Prop} (hq: ∀e st,Q e st->Q' e st): ∀{n:Nat} {st:St},LoopN rd P B N L c Q n st->LoopN rd P B N L c Q' n st
 |0,_,h=>h
 |n+1,st,h=>eH (Q:=fun e st'=>match e with| .normal=>LoopN rd P B N L c Q n st'|e=>Q e st') h fun e st' hh=>by
  cases e with
  |normal=>exact DR hq (n:=n) hh
  |_=>exact hq _ _ hh
theorem O9 {rd:Option Nat} {P:Program} {B:Base} {N:Nat} {L:List Nat} {c:Code} {Q:Exit->St->Prop} {n:Nat} {st st':St} (h:jl B N L st st') (hw:LoopN rd P B N L c Q n st'):LoopN rd P B N L c Q n st:=by
 cases n with
 |zero=>exact hw
 |succ n=>exact sN h hw
section
variable {rd:Option Nat} {P:Program} {B:Base} {N:Nat} {L:List Nat} {T:List (Nat × TI)} {Q:Exit->St->Prop} {st st':St}
theorem QI.imp {e:Exit} (h:jl B N L st st') (hq:QI B N L Q e st'):QI B N L Q e st:=by
 obtain⟨s,h1,h2⟩:=hq;exact⟨s,h.trans h1,h2⟩
theorem kL (h:jl B N L st st'): ∀{K:List Kf} {e:Exit},post rd P B N L K (QI B N L Q) e st'->post rd P B N L K (QI B N L Q) e st
 |[],_,hq=>hq.imp h
 | .sq y::K,e,hq=>by
  cases e with
  |normal=>exact sN h hq
  |_=>exact kL (K:=K) h hq
 | .bl id::K,e,hq=>by
  cases e with
  |exit i=>
   simp only [post]at hq ⊢;cases hb:Nat.beq i id with
   |true=>rw [hb]at hq;exact kL (K:=K) h hq
   |false=>rw [hb]at hq;exact kL (K:=K) h hq
  |_=>exact kL (K:=K) h hq
 | .lo c n::K,e,hq=>by
  cases e with
  |normal=>exact O9 h hq
  |_=>exact kL (K:=K) h hq
 | .sc::K,e,hq=> ⟨hq.1,kL (K:=K) h hq.2⟩
def Zv (rd:Option Nat) (P:Program) (B:Base) (N:Nat) (L:List Nat) (f:Foc) (Q:Exit->St->Prop) (st:St):Prop:=
 match f with
 | .at c K=>jV rd P B N L c (post rd P B N L K (QI B N L Q)) st
 | .fin e=>QI B N L Q e st
 | .bad=>False
def CeS (rd:Option Nat) (P:Program) (B:Base) (N:Nat) (L:List Nat) (x:CE) (K:List Kf) (Q:Exit->St->Prop) (st:St):Prop:=
 match x with
 | .c c=>jV rd P B N L c (post rd P B N L K (QI B N L Q)) st
 | .e e=>post rd P B N L K (QI B N L Q) e st
theorem go_ok: ∀{n:Nat} {x:CE} {K:List Kf},Zv rd P B N L (go n x K) Q st->CeS rd P B N L x K Q st
 |0,_,_,h=>h.elim
 |n+1, .c c,K,h=>by
  unfold go at h;split at h
  ·rename_i x y;cases hr:Zn x y with
   |true=>rw [hr]at h;exact h
   |false=>rw [hr]at h;have:=go_ok (n:=n) h;exact tH this
  ·have:=go_ok h;exact K7 this
  ·have:=go_ok h;exact Jv this
  ·have:=go_ok h;exact Gi this
  ·have:=go_ok h;exact Rj this
  ·have:=go_ok h;exact Un this
  ·have:=go_ok h;exact Qn this
  ·exact h
 |n+1, .e e,[],h=>h
 |n+1, .e e, .sq y::K,h=>by
  unfold go at h;cases e with
  |normal=>exact go_ok (n:=n) (x:= .c y) (K:=K) h
  |exit i=>exact go_ok (n:=n) (x:= .e _) (K:=K) h
  |goto l=>exact go_ok (n:=n) (x:= .e _) (K:=K) h
  |ret=>exact go_ok (n:=n) (x:= .e _) (K:=K) h
  |panic c=>exact go_ok (n:=n) (x:= .e _) (K:=K) h
  |outgrown=>exact go_ok (n:=n) (x:= .e _) (K:=K) h
 |n+1, .e e, .bl id::K,h=>by
  unfold go at h;cases e with
  |exit i=>
   show(bif Nat.beq i id then _ else _);simp only at h;cases hb:Nat.beq i id with
   |true=>rw [hb]at h;exact go_ok (n:=n) (x:= .e _) (K:=K) h
   |false=>rw [hb]at h;exact go_ok (n:=n) (x:= .e _) (K:=K) h
  |normal=>exact go_ok (n:=n) (x:= .e _) (K:=K) h
  |goto l=>exact go_ok (n:=n) (x:= .e _) (K:=K) h
  |ret=>exact go_ok (n:=n) (x:= .e _) (K:=K) h
  |panic c=>exact go_ok (n:=n) (x:= .e _) (K:=K) h
  |outgrown=>exact go_ok (n:=n) (x:= .e _) (K:=K) h
 |n+1, .e e, .lo c m::K,h=>by
  unfold go at h;cases e with
  |normal=>
   cases m with
   |zero=>exact h.elim
   |succ m=>exact go_ok (n:=n) (x:= .c c) (K:= .lo c m::K) h
  |exit i=>exact go_ok (n:=n) (x:= .e _) (K:=K) h
  |goto l=>exact go_ok (n:=n) (x:= .e _) (K:=K) h
  |ret=>exact go_ok (n:=n) (x:= .e _) (K:=K) h
  |panic c=>exact go_ok (n:=n) (x:= .e _) (K:=K) h
  |outgrown=>exact go_ok (n:=n) (x:= .e _) (K:=K) h
 |n+1, .e e, .sc::K,h=>by
  unfold go at h;cases e with
  |goto l=>exact h.elim
  |normal=>exact⟨fun _=>Exit.noConfusion,go_ok (n:=n) (x:= .e _) (K:=K) h⟩
  |exit i=>exact⟨fun _=>Exit.noConfusion,go_ok (n:=n) (x:= .e _) (K:=K) h⟩
  |ret=>exact⟨fun _=>Exit.noConfusion,go_ok (n:=n) (x:= .e _) (K:=K) h⟩
  |panic c=>exact⟨fun _=>Exit.noConfusion,go_ok (n:=n) (x:= .e _) (K:=K) h⟩
  |outgrown=>exact⟨fun _=>Exit.noConfusion,go_ok (n:=n) (x:= .e _) (K:=K) h⟩
theorem kJ {Q1:Exit->St->Prop} {K2:List Kf} (hq: ∀e st,Q1 e st->post rd P B N L K2 Q e st): ∀{K1:List Kf} {e:Exit} {st:St},post rd P B N L K1 Q1 e st->post rd P B N L (K1++K2) Q e st
 |[],e,st,h=>hq e st h
 | .sq y::K,e,st,h=>by
  cases e with
  |normal=>exact eH h fun e st hh=>kJ hq hh
  |_=>exact kJ (K1:=K) hq h
 | .bl id::K,e,st,h=>by
  cases e with
  |exit i=>
   simp only [post,dE]at h ⊢;cases hb:Nat.beq i id with
   |true=>rw [hb]at h;exact kJ (K1:=K) hq h
   |false=>rw [hb]at h;exact kJ (K1:=K) hq h
  |_=>exact kJ (K1:=K) hq h
 | .lo c n::K,e,st,h=>by
  cases e with
  |normal=>exact DR (n:=n) (fun e st hh=>kJ hq hh) h
  |_=>exact kJ (K1:=K) hq h
 | .sc::K,e,st,h=> ⟨h.1,kJ (K1:=K) hq h.2⟩
end
inductive Po:Type->Type 1 where
 |fn {R:Type} (T:List (Nat × TI)) (rs:List ResultVar) (res:R->TV) (hout:R->List (Nat × Option Ob)):Po R
 |jn {R β:Type} (K:List Kf) (t:β->St) (o:Po R):Po (Ex β R)
 |jN {β:Type} (t:β->St):Po β
 |lp {R σ β:Type} (b:Nat) (K:List Kf) (S:σ->St) (Sb:β->St) (o:Po R):Po (bC σ (Ex β R))
 |gt {R σ β:Type} (l:Nat) (K:List Kf) (S:σ->St) (Sb:β->St) (o:Po R):Po (bC σ (Ex β R))
 |yl {R:Type} (b:Nat) (r:iH) (res:R->TV) (hout:R->List (Nat × Option Ob)):Po R
 |gb {R σ:Type} (L0:List Nat) (S:σ->St) (T:List (Nat × TI)) (rs:List ResultVar) (res:R->TV) (hout:R->List (Nat × Option Ob)):Po (bC σ (Ex Empty R))
 |fnp {R:Type} (pv:Value) (T:List (Nat × TI)) (rs:List ResultVar) (res:R->TV) (hout:R->List (Nat × Option Ob)) (hin:List (Nat × Option Ob)):Po (Option R)
 |dq {γ δ:Type} (pv:Value) (t:γ->St) (tp:δ->St):Po (Sum γ δ)
def VI (pv:Value):Exit:= .panic [{v:=pv,recovered:=false}]
section
variable (rd:Option Nat) (P:Program) (B:Base) (N:Nat) (L:List Nat)
def Po.Q:{R:Type}->Po R->R->Exit->St->Prop
 |_, .fn T rs res hout=>fun r e st=>Ep T rs (res r) (hout r) e st
 |_, .jn K t o=>fun r e st=>match r with
  | .brk z=>e= .normal/\st=t z
  | .ret x=>e≠ .normal/\post rd P B N L K (QI B N L (o.Q x)) e st
 |_, .jN t=>fun r e st=>e= .normal/\st=t r
 |_, .lp b K S Sb o=>fun r e st=>match r with
  | .next s=>e= .normal/\st=S s
  | .done (.brk z)=>e= .exit b/\st=Sb z
  | .done (.ret x)=>e≠ .normal/\e≠ .exit b/\post rd P B N L K (QI B N L (o.Q x)) e st
 |_, .gt l K S Sb o=>fun r e st=>match r with
  | .next s=>e= .goto l/\st=S s
  | .done (.brk z)=>e= .normal/\st=Sb z
  | .done (.ret x)=>(∀l',e≠ .goto l')/\e≠ .normal/\post rd P B N L K (QI B N L (o.Q x)) e st
 |_, .yl b rec res hout=>fun r e st=>yH b rec (res r) (hout r) e st
 |_, .gb L0 S T rs res hout=>fun r e st=>match r with
  | .next s=>e= .normal/\st=S s
  | .done (.brk z)=>z.elim
  | .done (.ret x)=>e= .ret/\ ∀B,∃s',jl B N L0 st s'/\Ep T rs (res x) (hout x) .ret s'
 |_, .fnp pv T rs res hout hin=>fun r e st=>match r with
  |some r=>Ep T rs (res r) (hout r) e st
  |none=>e=VI pv/\oo st.heap hin
 |_, .dq pv t tp=>fun r e st=>match r with
  | .inl z=>(e= .normal\/e= .ret)/\st=t z
  | .inr y=>e=VI pv/\st=tp y
end
def rsT:List ResultVar->List Nat
 |[]=>[]
 | .tmp t::l=>t::rsT l
 | .cell t _::l=>t::rsT l
def Ar:Exit->Bool
 | .normal| .ret=>true
 |_=>false
def uy:Exit->Bool
 | .normal=>true
 |_=>false
def Ms (b:Nat):Exit->Bool
 | .exit i=>Nat.beq i b
 |_=>false
def FU:Nat:=5000
def isGo:Exit->Bool
 | .goto _=>true
 |_=>false
def RF (l:Nat):Exit->Bool
 | .goto i=>Nat.beq i l
 |_=>false
def Hq (e:Exit):List Code->Nat->Option Nat
 |[],_=>none
 |c::l,k=>match c,e with
  | .ret, .ret=>some k
  | .exit i, .exit j=>bif Nat.beq i j then some k else Hq e l (k+1)
  | .goto i, .goto j=>bif Nat.beq i j then some k else Hq e l (k+1)
  |_,_=>Hq e l (k+1)
def V7 (e:Exit) (l:List Code):Option (Nat × Bool):=
 match e with
 | .normal=>some (0,true)
 |e=>match Hq e l 0 with|some k=>some (k+2,false)|none=>none
def Rw (L fz:List Nat) (rn:List (Nat × Nat)) (b:Nat) (rec:iH) (res:TV) (hout:List (Nat × Option Ob)) (e:Exit) (st:St):Option CP:=
 match V7 e rec.outs with
 |some (s,v)=>match Iu L fz [] (RL rn (jY hout)) (lm st)with
  |some (q,s1)=>match get s1.heap b with
   |some (some (.loop r1 1 sl))=>some (SX q++((tK hout (zn b s s1.heap)).1++[(.ob (some (.loop r1 1 sl)), .ob (some (.loop rec 1 sl))),(.hp (tK hout (zn b s s1.heap)).2, .hp hout),(.tv (vB v), .tv res)]))
   |_=>none
  |none=>none
 |none=>none
def JX (L fz:List Nat) (rn:List (Nat × Nat)) (T:List (Nat × TI)) (rs:List ResultVar) (res:TV) (hout:List (Nat × Option Ob)) (st:St):Option CP:=
 match Iu L fz (rsT rs) (RL rn (jY hout)) (lm st)with
 |some (e,s1)=>match KX T s1 rs with
  |some ([],l)=>some (SX e++((K5 res (Jm l)).1++((tK hout s1.heap).1++[(.tv (K5 res (Jm l)).2, .tv res),(.hp (tK hout s1.heap).2, .hp hout)])))
  |_=>none
 |none=>none
def Ra (L fz:List Nat) (rn:List (Nat × Nat)) (pv:Value) (hin:List (Nat × Option Ob)) (e:Exit) (st:St):Option CP:=
 match Iu L fz [] (RL rn (jY hin)) (lm st)with
 |some (q,s1)=>some (SX q++((tK hin s1.heap).1++[(.hp (tK hin s1.heap).2, .hp hin),(.ex e, .ex (VI pv))]))
 |none=>none
def leaf (L fz:List Nat) (rn:List (Nat × Nat)):{R:Type}->Po R->Exit->R->St->Option CP
 |_, .fn T rs res hout=>fun e r st=>bif Ar e then JX L fz rn T rs (res r) (hout r) st else none
 |_, .jn K t o=>fun e r st=>match r with
  | .brk z=>bif uy e then narrow L fz rn (t z) st else none
  | .ret x=>bif uy e then none else match go FU (.e e) K with
   | .fin e'=>leaf L fz rn o e' x st
   |_=>none
 |_, .jN t=>fun e r st=>bif uy e then narrow L fz rn (t r) st else none
 |_, .lp b K S Sb o=>fun e r st=>match r with
  | .next s=>bif uy e then narrow L fz rn (S s) st else none
  | .done (.brk z)=>bif Ms b e then narrow L fz rn (Sb z) st else none
  | .done (.ret x)=>bif uy e||Ms b e then none else match go FU (.e e) K with
   | .fin e'=>leaf L fz rn o e' x st
   |_=>none
 |_, .gt l K S Sb o=>fun e r st=>match r with
  | .next s=>bif RF l e then narrow L fz rn (S s) st else none
  | .done (.brk z)=>bif uy e then narrow L fz rn (Sb z) st else none
  | .done (.ret x)=>bif uy e||isGo e then none else match go FU (.e e) K with
   | .fin e'=>leaf L fz rn o e' x st
   |_=>none
 |_, .yl b rec res hout=>fun e r st=>Rw L fz rn b rec (res r) (hout r) e st
 |_, .gb L0 S T rs res hout=>fun e r st=>match r with
  | .next s=>bif uy e then narrow L fz rn (S s) st else none
  | .done (.brk z)=>z.elim
  | .done (.ret x)=>match e with| .ret=>JX L0 fz rn T rs (res x) (hout x) st|_=>none
 |_, .fnp pv T rs res hout hin=>fun e r st=>match r with
  |some r=>bif Ar e then JX L fz rn T rs (res r) (hout r) st else none
  |none=>Ra L fz rn pv hin e st
 |_, .dq pv t tp=>fun e r st=>match r with
  | .inl z=>bif Ar e then narrow L fz rn (t z) st else none
  | .inr y=>match narrow L fz rn (tp y) st with|some c=>some ((.ex e, .ex (VI pv))::c)|none=>none
section
variable {rd:Option Nat} {P:Program} {B:Base} {N:Nat} {L:List Nat}
theorem Fq {e:Exit} (h:uy e=true):e= .normal:=by cases e<;>first|rfl|cases h
theorem MH {e:Exit} (h:uy e=false):e≠ .normal:=by rintro rfl;cases h
theorem WS {b:Nat} {e:Exit} (h:Ms b e=true):e= .exit b:=by
 cases e<;>first|cases h|(rename_i i;exact congrArg Exit.exit (bv h))
theorem WA {b:Nat} {e:Exit} (h:Ms b e=false):e≠ .exit b:=by rintro rfl;simp [Ms]at h
theorem XV {e:Exit} (h:isGo e=false): ∀l,e≠ .goto l:=by rintro l rfl;cases h
theorem UW {l:Nat} {e:Exit} (h:RF l e=true):e= .goto l:=by
 cases e<;>first|cases h|(rename_i i;exact congrArg Exit.goto (bv h))
theorem AO {e:Exit} {l0:List Code}: ∀{l:List Code} {k j:Nat},(∀i c,l[i]? =some c->l0[k+i]? =some c)->Hq e l k=some j-> ∃c,l0[j]? =some c/\Ak c=true/\e=zb c
 |[],k,j,_,h=>by cases h
 |c::l,k,j,hl,h=>by
  have hn: ∀i c',l[i]? =some c'->l0[k+1+i]? =some c':=fun i c' hc=>by
   have:=hl (i+1) c' (by simpa using hc)
   rwa [show k+(i+1)=k+1+i by omega]at this
  have h0:=hl 0 c rfl;unfold Hq at h;split at h;·cases h;exact⟨_,h0,rfl,rfl⟩
  ·rename_i i' j';cases hb:Nat.beq i' j' with
   |true=>rw [hb]at h;cases h;have:=bv hb;subst this;exact⟨_,h0,rfl,rfl⟩
   |false=>rw [hb]at h;exact AO hn h
  ·rename_i i' j';cases hb:Nat.beq i' j' with
   |true=>rw [hb]at h;cases h;have:=bv hb;subst this;exact⟨_,h0,rfl,rfl⟩
   |false=>rw [hb]at h;exact AO hn h
  ·exact AO hn h
theorem Q7 {fz:List Nat} {rn:List (Nat × Nat)} {b:Nat} {rec:iH} {res:TV} {hout:List (Nat × Option Ob)} {e:Exit} {st:St} {c:CP} (h:Rw L fz rn b rec res hout e st=some c) (hc:c.ok):
  QI B N L (yH b rec res hout) e st:=by
 unfold Rw at h;split at h
 ·rename_i s v e0;split at h
  ·rename_i q s1 e1;split at h
   ·rename_i r1 sl e2;cases h;rw [CP.eP,CP.eP]at hc;have hq:=rZ hc.1;obtain⟨ts,cs',hf,hcs⟩:=mR e1 hq [] trivial;obtain⟨h1,h2,h3,_⟩:=hc.2.2;have h1:=Ck.ob.inj h1;simp only [Option.some.injEq,Ob.loop.injEq,and_true]at h1;subst h1;refine⟨s1,jl.fin _ ts hf hcs,s,v,sl, ?_,e2, ?_, ?_⟩
    ·unfold V7 at e0;split at e0
     ·cases e0;exact .inl ⟨rfl,rfl,rfl⟩
     ·rename_i hne;split at e0
      ·rename_i k e3;cases e0;obtain⟨c,g1,g2,g3⟩:=AO (l0:=r1.outs) (l:=r1.outs) (k:=0) (fun i c hc=>by simpa using hc) e3;exact .inr ⟨k,c,g1,g2,g3,rfl,rfl⟩
      ·cases e0
    ·have:=zN hc.2.1;rwa [Ck.hp.inj h2]at this
    ·exact Ca.of (Ck.tv.inj h3)
   ·cases h
  ·cases h
 ·cases h
theorem El {fz:List Nat} {rn:List (Nat × Nat)} {T:List (Nat × TI)} {rs:List ResultVar} {res:TV} {hout:List (Nat × Option Ob)} {e:Exit} {st:St} {c:CP} (he:Ar e=true) (h:JX L fz rn T rs res hout st=some c) (hc:c.ok):
  QI B N L (Ep T rs res hout) e st:=by
 unfold JX at h;split at h
 ·rename_i q s1 e1;split at h
  ·rename_i l e2;cases h;rw [CP.eP,CP.eP,CP.eP]at hc;have hq:=rZ hc.1;obtain⟨ts,cs',hf,hcs⟩:=mR e1 hq [] trivial;have h1:(K5 res (Jm l)).2=res:=Ck.tv.inj hc.2.2.2.1;have h2:(tK hout s1.heap).2=hout:=Ck.hp.inj hc.2.2.2.2.1;refine⟨s1,jl.fin _ ts hf hcs, ?_,⟨[],l,e2,trivial, ?_⟩, ?_⟩
   ·cases e<;>simp [Ar]at he<;>simp
   ·have:=Nn hc.2.1;rwa [h1]at this
   ·have:=zN hc.2.2.1;rwa [h2]at this
  ·cases h
 ·cases h
theorem P6 {fz:List Nat} {rn:List (Nat × Nat)} {pv:Value} {hin:List (Nat × Option Ob)} {e:Exit} {st:St} {c:CP} (h:Ra L fz rn pv hin e st=some c) (hc:c.ok):
  QI B N L (fun e st=>e=VI pv/\oo st.heap hin) e st:=by
 unfold Ra at h;split at h
 ·rename_i q s1 e1;cases h;rw [CP.eP,CP.eP]at hc;have hq:=rZ hc.1;obtain⟨ts,cs',hf,hcs⟩:=mR e1 hq [] trivial;have h2:(tK hin s1.heap).2=hin:=Ck.hp.inj hc.2.2.1;refine⟨s1,jl.fin _ ts hf hcs,Ck.ex.inj hc.2.2.2.1, ?_⟩;have:=zN hc.2.1;rwa [h2]at this
 ·cases h
theorem Vj {fz:List Nat} {rn:List (Nat × Nat)}: ∀{R:Type} {po:Po R} {e:Exit} {r:R} {st:St} {c:CP},leaf L fz rn po e r st=some c->c.ok->QI B N L (po.Q rd P B N L r) e st:=by
 intro R po;induction po with
 |fn T rs res hout=>
  intro e r st c h hc;unfold leaf at h;cases he:Ar e with
  |false=>simp [he]at h
  |true=>simp only [he,bt]at h;exact El he h hc
 |jN t=>
  intro e r st c h hc;unfold leaf at h;cases he:uy e with
  |false=>simp [he]at h
  |true=>simp only [he,bt]at h;exact⟨_,iP h hc,Fq he,rfl⟩
 |jn K t o ih=>
  intro e r st c h hc;unfold leaf at h;cases r with
  |brk z=>
   simp only at h;cases he:uy e with
   |false=>simp [he]at h
   |true=>simp only [he,bt]at h;exact⟨_,iP h hc,Fq he,rfl⟩
  |ret x=>
   simp only at h;cases he:uy e with
   |true=>simp [he]at h
   |false=>
    simp only [he,bu]at h;split at h
    ·rename_i e' e1;have:=ih h hc;refine⟨st, .refl,MH he, ?_⟩;exact go_ok (n:=FU) (x:= .e e) (by rw [e1];exact this)
    ·cases h
 |lp b K S Sb o ih=>
  intro e r st c h hc;unfold leaf at h;cases r with
  |next s=>
   simp only at h;cases he:uy e with
   |false=>simp [he]at h
   |true=>simp only [he,bt]at h;exact⟨_,iP h hc,Fq he,rfl⟩
  |done r=>
   cases r with
   |brk z=>
    simp only at h;cases he:Ms b e with
    |false=>simp [he]at h
    |true=>simp only [he,bt]at h;exact⟨_,iP h hc,WS he,rfl⟩
   |ret x=>
    simp only at h;cases he:(uy e||Ms b e)with
    |true=>simp [he]at h
    |false=>
     simp only [he,bu]at h;rw [ek]at he;split at h
     ·rename_i e' e1;have:=ih h hc;refine⟨st, .refl,MH he.1,WA he.2, ?_⟩;exact go_ok (n:=FU) (x:= .e e) (by rw [e1];exact this)
     ·cases h
 |gt b K S Sb o ih=>
  intro e r st c h hc;unfold leaf at h;cases r with
  |next s=>
   simp only at h;cases he:RF b e with
   |false=>simp [he]at h
   |true=>simp only [he,bt]at h;exact⟨_,iP h hc,UW he,rfl⟩
  |done r=>
   cases r with
   |brk z=>
    simp only at h;cases he:uy e with
    |false=>simp [he]at h
    |true=>simp only [he,bt]at h;exact⟨_,iP h hc,Fq he,rfl⟩
   |ret x=>
    simp only at h;cases he:(uy e||isGo e)with
    |true=>simp [he]at h
    |false=>
     simp only [he,bu]at h;rw [ek]at he;split at h
     ·rename_i e' e1;have:=ih h hc;refine⟨st, .refl,XV he.2,MH he.1, ?_⟩;exact go_ok (n:=FU) (x:= .e e) (by rw [e1];exact this)
     ·cases h
 |yl b rec res hout=>
  intro e r st c h hc;exact Q7 h hc
 |gb L0 S T rs res hout=>
  intro e r st c h hc;unfold leaf at h;cases r with
  |next s=>
   simp only at h;cases he:uy e with
   |false=>simp [he]at h
   |true=>simp only [he,bt]at h;exact⟨_,iP h hc,Fq he,rfl⟩
  |done r=>
   cases r with
   |brk z=>exact z.elim
   |ret x=>
    simp only at h;cases e with
    |ret=>
     exact⟨st, .refl,rfl,fun B=>El (B:=B) (N:=N) (e:= .ret) rfl h hc⟩
    |_=>cases h
 |fnp pv T rs res hout hin=>
  intro e r st c h hc;unfold leaf at h;cases r with
  |some r=>
   simp only at h;cases he:Ar e with
   |false=>simp [he]at h
   |true=>simp only [he,bt]at h;exact El he h hc
  |none=>exact P6 h hc
 |dq pv t tp=>
  intro e r st c h hc;unfold leaf at h;cases r with
  |inl z=>
   simp only at h;cases he:Ar e with
   |false=>simp [he]at h
   |true=>
    simp only [he,bt]at h;refine⟨_,iP h hc, ?_,rfl⟩;cases e<;>simp [Ar]at he<;>simp
  |inr y=>
   simp only at h;split at h;·rename_i c' e1;cases h;exact⟨_,iP e1 hc.2,Ck.ex.inj hc.1,rfl⟩
   ·cases h
end
def fact (Γ:List Prop) (j:Nat):Prop:=match Γ,j with
 |[],_=>True
 |p::_,0=>p
 |_::l,j+1=>fact l j
theorem oh: ∀{Γ:List Prop} {j:Nat},All Γ->fact Γ j
 |[],_,_=>trivial
 |_::_,0,h=>h.1
 |_::_,j+1,h=>oh (j:=j) h.2
def csP (Γ:List Prop):Cs->Prop
 | .u j=>fact Γ j
 | .k j=>fact Γ j
 | .pf x=>x.p
 | .dv _ x=>x.b
 | .dk _ x=>x.b
 | .m _ _ b _=>b
def mCk (Γ:List Prop):List Nat->List Prop->Option CP
 |[],[]=>some []
 |j::js,a::az=>match mCk Γ js az with|some l=>some ((.p (fact Γ j), .p a)::l)|none=>none
 |_,_=>none
theorem Qy {Γ:List Prop} (hΓ:All Γ): ∀{js:List Nat} {az:List Prop} {l:CP},mCk Γ js az=some l->l.ok->All az
 |[],[],_,_,_=>trivial
 |j::js,a::az,l,h,hl=>by
  unfold mCk at h;split at h;·rename_i e;cases h;exact⟨Ck.p.inj hl.1 ▸ oh hΓ,Qy hΓ e hl.2⟩
  ·cases h
 |[],_::_,_,h,_=>by cases h
 |_::_,[],_,h,_=>by cases h
def Yz (Γ:List Prop):Cs->CP
 | .dv j x=>[(.p (fact Γ j), .p x.a)]
 | .dk j x=>[(.p (fact Γ j), .p x.a)]
 | .m js a _ _=>match mCk Γ js a with|some l=>l|none=>[(.b true, .b false)]
 |_=>[]
def csW:Cs->Bool
 | .u _=>true
 | .dv _ _=>true
 | .m _ _ _ _=>true
 |_=>false
theorem Ik {Γ:List Prop} (hΓ:All Γ) {c:Cs} (h:CP.ok (Yz Γ c)):csP Γ c:=by
 cases c with
 |u j=>exact oh hΓ
 |k j=>exact oh hΓ
 |pf x=>exact x.h
 |dv j x=>exact x.h (Ck.p.inj h.1 ▸ oh hΓ)
 |dk j x=>exact x.h (Ck.p.inj h.1 ▸ oh hΓ)
 |m js a b hb=>
  simp only [Yz]at h;split at h;·rename_i e;exact hb (Qy hΓ e h)
  ·exact absurd (Ck.b.inj h.1) (by simp)
def Ig (Γ:List Prop) (w:Prop->Prop):List Prop->List Cs->Option (CP × List Cs)
 |[],cs=>some ([],cs)
 |p::ps,c::cs=>match Ig Γ w ps cs with
  |some (l,r)=>some ((.p (bif csW c then w p else p), .p (csP Γ c))::(Yz Γ c++l),r)
  |none=>none
 |_::_,[]=>none
def Yw (yb:Nat->Bool):List (Nat × Bool)->Bool
 |[]=>true
 |(j,w)::g=>(yb j==w) && Yw yb g
theorem Il {yb:Nat->Bool}: ∀{g:List (Nat × Bool)},Yw yb g=true↔gP yb g
 |[]=>by simp [Yw,gP]
 |(j,w)::g=>by simp [Yw,gP,Il]
def wrG (yb:Nat->Bool) (g:List (Nat × Bool)) (p:Prop):Prop:=match g with
 |[]=>p
 |g=>gB (g.map fun q=>(yb q.1,q.2))=true->p
theorem Xy {yb:Nat->Bool} {g:List (Nat × Bool)} (p:Prop) (h:p):wrG yb g p:=by
 cases g with
 |nil=>exact h
 |cons x g=>exact fun _=>h
theorem Xm {yb:Nat->Bool} {g:List (Nat × Bool)}: ∀{l:List Prop},All (l.map (wrG yb g))->All (xU yb g l):=by
 intro l h;cases g with
 |nil=>have h':All (l.map id):=h;simpa [xU]using h'
 |cons x g=>
  cases l with
  |nil=>trivial
  |cons p l=>
   refine⟨fun hg=> ?_,trivial⟩;have hb:=VN hg;have: ∀l:List Prop,All (l.map (wrG yb (x::g)))->All l:=fun l=>by
    induction l with
    |nil=>exact fun _=>trivial
    |cons q l ih=>exact fun hh=> ⟨hh.1 hb,ih hh.2⟩
   exact this _ h
theorem Gt {Γ:List Prop} (hΓ:All Γ) {w:Prop->Prop} (hw: ∀p,p->w p): ∀{ps:List Prop} {cs r:List Cs} {l:CP},Ig Γ w ps cs=some (l,r)->l.ok->All (ps.map w)
 |[],_,_,_,_,_=>trivial
 |p::ps,[],_,_,h,_=>by cases h
 |p::ps,c::cs,r,l,h,hl=>by
  unfold Ig at h;split at h
  ·rename_i l' r' e;cases h;obtain⟨h1,h2⟩:=hl;rw [CP.eP]at h2;refine⟨?_,Gt hΓ hw e h2.2⟩;have h3:=Ik hΓ h2.1;rw [<-Ck.p.inj h1]at h3;cases hc:csW c with
   |true=>rw [hc]at h3;exact h3
   |false=>rw [hc]at h3;exact hw _ h3
  ·cases h
def TB (Γ:List Prop) (ov:List (Nat × Bool × Nat)) (j:Nat) (a v:Bool):CP:=
 match get ov j with
 |some (w,k)=>[(.p (a=w), .p (fact Γ k)),(.b v, .b w)]
 |none=>[(.b a, .b v)]
theorem Ny {Γ:List Prop} (hΓ:All Γ) {ov:List (Nat × Bool × Nat)} {j:Nat} {a v:Bool} (h:(TB Γ ov j a v).ok):a=v:=by
 unfold TB at h;split at h
 ·have:a=_:=Ck.p.inj h.1 ▸ oh hΓ;rw [this];exact(Ck.b.inj h.2.1).symm
 ·exact Ck.b.inj h.1
def kK (yb:Nat->Bool) (ov:List (Nat × Bool × Nat)) (Γ:List Prop):List Ri->List Cs->Option CP
 |[],[]=>some []
 |[],_::_=>none
 | .eb j a v::its,cs=>match kK yb ov Γ its cs with|some l=>some (TB Γ ov j a v++l)|none=>none
 | .eg _ j a v::its,cs=>match kK yb ov Γ its cs with|some l=>some (TB Γ ov j a v++l)|none=>none
 | .cs g ps::its,cs=>match Ig Γ (wrG yb g) ps cs with
  |some (l1,cs')=>match kK yb ov Γ its cs' with|some l=>some (l1++l)|none=>none
  |none=>none
 | .nd g::its,cs=>match kK yb ov Γ its cs with|some l=>some ((.b (Yw yb g), .b true)::l)|none=>none
 | .ng g::its,cs=>match kK yb ov Γ its cs with|some l=>some ((.b (Yw yb g), .b false)::l)|none=>none
theorem R5 {yb:Nat->Bool} {g:List (Nat × Bool)} {p:Prop} (h:p):All (xU yb g [p]):=by
 cases g with
 |nil=>exact⟨h,trivial⟩
 |cons x g=>exact⟨fun _=> ⟨h,trivial⟩,trivial⟩
theorem uZ {yb:Nat->Bool} {ov:List (Nat × Bool × Nat)} {Γ:List Prop} (hΓ:All Γ): ∀{its:List Ri} {cs:List Cs} {l:CP},kK yb ov Γ its cs=some l->l.ok-> ∀it∈its,All (it.P yb)
 |[],_,_,_,_=>fun _ h=>by simp at h
 |it::its,cs,l,h,hl=>by
  have key: ∃cs' l',kK yb ov Γ its cs'=some l'/\l'.ok/\All (it.P yb):=by
   cases it with
   |eb j a v=>
    unfold kK at h;split at h;·rename_i l' e;cases h;rw [CP.eP]at hl;exact⟨_,_,e,hl.2,Ny hΓ hl.1,trivial⟩
    ·cases h
   |eg g j a v=>
    unfold kK at h;split at h;·rename_i l' e;cases h;rw [CP.eP]at hl;exact⟨_,_,e,hl.2,R5 (Ny hΓ hl.1)⟩
    ·cases h
   |cs g ps=>
    unfold kK at h;split at h
    ·rename_i l1 cs' e0;split at h
     ·rename_i l' e;cases h;rw [CP.eP]at hl;exact⟨_,_,e,hl.2,Xm (Gt hΓ Xy e0 hl.1)⟩
     ·cases h
    ·cases h
   |nd g=>
    unfold kK at h;split at h;·rename_i l' e;cases h;exact⟨_,_,e,hl.2,Il.1 (Ck.b.inj hl.1),trivial⟩
    ·cases h
   |ng g=>
    unfold kK at h;split at h;·rename_i l' e;cases h;exact⟨_,_,e,hl.2,(fun hg=>by have:=Il.2 hg;rw [Ck.b.inj hl.1]at this;cases this),trivial⟩
    ·cases h
  obtain⟨cs',l',h1,h2,h3⟩:=key;intro x hx;rcases eh.1 hx with rfl|hx;·exact h3
  ·exact uZ hΓ h1 h2 x hx
def WL:List Ri->Nat
 |[]=>0
 | .cs _ ps::l=>ps.length+WL l
 |_::l=>WL l
def dfl:Nat->List Cs
 |0=>[]
 |n+1=> .u n::dfl n
def II (its:List Ri):List Cs->List Cs
 |[]=>dfl (WL its)
 |l=>l
def Je (P:Program) (pv:Value) (f:FuncId) (args:List SV) (hin:List (Nat × Option Ob)):Prop:=
 Enters P f/\ ∀(B:Base) (vs:List Value),(∀k,B.F k->k<B.w.heap.size)->HI B B.ρ B.F B.w (aP hin)->dm B.ρ B.F B.w args vs->
  Calls P f vs.toArray B.w fun e w'=>e= .panicked [{v:=pv,recovered:=false}]/\Post B (.eB []) hin (.tuple #[]) w'
def Pb (h:List (Nat × Option Ob)):Bool:=h.any fun x=>Nat.beq x.1 999999
def Nu (P:Program) (pv:Value):Cl->List SV->List (Nat × Option Ob)->TV->List (Nat × Option Ob)->Prop
 | .fn f=>fun args hin res hout=>bif Pb hout then Je P pv f args hin else Fn P f args hin res hout
 | .yl b=>Yl P b
section
variable {P:Program} {B:Base} {ρ ρ':Nat->Option Pl} {F F':Nat->Prop} {w w':World} {h:Hp} {o:Oper} {a:Act} {T:List (Nat × TI)} {pv:Value}
theorem QM {ids:List Nat} {f:Nat} {hin:List (Nat × Option Ob)} {args:List SV} {xs:List TV} {vs:List Value}
  (hzip:bJ ids (ids.map h)=some hin) (hargs:gT xs=some args) (hb:(bZ (args.flatMap SV.bP) ids && bZ (dF (ids.map h)) ids)=true) (hfn:Je P pv f args hin)
  (hrun:(execOp a.eval o).run P w=(callFunc f vs.toArray).run P w) (fr:Fr B ρ F w) (hi:HI B ρ F w h) (hx:dG ρ F w xs vs) (r:Option Nat) (K:Act->World->Prop) (Q:Exit->Act->World->Prop)
  (hQ: ∀ρ' F' w',Gr ρ F w ρ' F' w'->Fr B ρ' F' w'->HI B ρ' F' w' h->Q (.panic [{v:=pv,recovered:=false}]) a w'):o.wpIn (FW r) 0 P a w K Q:=by
 have hk:=vK hzip;have hlen:(ids.map h).length=ids.length:=by simp
 have hzip':bJ ids ((ids++hin.map (·.1)).map h)=some hin:=by
  rw [List.map_append];exact yP hzip
 have htk:((ids++hin.map (·.1)).map h).take ids.length=ids.map h:=by
  rw [List.map_append,eQ (by rw [hlen];exact cx _),List.take_of_length_le (by rw [hlen];exact cx _)]
 have hb':(bZ (args.flatMap SV.bP) ids && bZ (dF (((ids++hin.map (·.1)).map h).take ids.length)) ids && fE ids (hin.map (·.1)) (((ids++hin.map (·.1)).map h).drop ids.length))=true:=by
  rw [htk,hb,cP];refine vQ (by simp) fun k hk'=>by rw [hk]at hk';exact hk'
 have hback:upd h (hin++ids.map (fun i=>(i,none)))=h:=by
  obtain⟨z1,z2,z3,_⟩:=pz hzip
  funext b
  rw [zM,get_append,EL];cases hg:get hin b with
  |some x=>
   obtain⟨j,ob,e1,e2,e3⟩:=z2 b x hg;rw [dj,e1]at e2;simp only [Option.map_some,Option.some.injEq]at e2;simp only [e3,e2]
  |none=>
   have:b ∉ ids:=fun hm=>z3 b hm hg;simp [this]
 obtain⟨hent,hfn⟩:=hfn;refine AZ (res:= .eB []) (X:=fun K'=>(∀v w',K' v w'->Q (.panic [{v:=pv,recovered:=false}]) a w')->o.wpIn (FW r) 0 P a w K Q) hzip' hargs hb' rfl fr hi hx (fun B' hw _ hF hi' hxs K' hK' hQ'=> ?_)
  (fun _ w'=>Q (.panic [{v:=pv,recovered:=false}]) a w') (fun v ρ' F' w' g f hi' _=>hQ ρ' F' w' g f (by rw [hback]at hi';exact hi')) (fun _ _ h=>h)
 have hen:(callFunc f vs.toArray).run P w= .ok (.enter f vs.toArray) w:=by
  obtain⟨fn,e1,e2,e3⟩:=hent;simp only [callFunc,eC,run_program,eA,e1,e2,e3,Bool.false_eq_true,if_false];rfl
 refine mQ r (jm (hrun.trans hen) (fun _ h=>by cases h)) ?_;simp only [Oper.wp,hrun,hen,Oper.upon];subst hw;refine(hfn B' vs hF hi' hxs).mono ?_;rintro e w2 ⟨rfl,hp⟩;exact hQ' _ _ (hK' _ _ hp)
def iJ.isR (an:iJ) (ids:List Nat):Prop:= ∃res,an= .callR ids res
def PX:iJ->Bool
 | .call _ _ hout=>Pb hout
 |_=>false
def VK:iJ->Bool
 | .callG _ _ _ _=>false
 |_=>true
theorem aaN {an:iJ} {f:Nat} {xs:List TV} {obs:List (Option (Option Ob))} {E:Eff} (hn:VK an=true) (he:iO (Nu P pv) an (.fn f) xs obs=some E) (hc:All E.conds):
  (PX an=false/\ ∃E',iO (vF P) an (.fn f) xs obs=some E'/\All E'.conds/\E'.tv=E.tv/\E'.hd=E.hd)\/
   ∃ids args hin,Je P pv f args hin/\gT xs=some args/\bJ ids obs=some hin/\(bZ (args.flatMap SV.bP) ids && bZ (dF (obs.take ids.length)) ids)=true/\(an.isR ids\/ ∃res hout,an= .call ids res hout):=by
 have e:kS (Nu P pv) an (.fn f) xs obs=some E:=by
  unfold iO at he;split at he;·cases hn
  ·exact he
 have e': ∀Fc,iO Fc an (.fn f) xs obs=kS Fc an (.fn f) xs obs:=fun Fc=>by
  unfold iO;split;·cases hn
  ·rfl
 rw [e'];unfold kS at e ⊢;split at e
 ·rename_i ids res hout;split at e
  ·rename_i args hin hargs hzip;cases hb:(bZ (args.flatMap SV.bP) ids && bZ (dF (obs.take ids.length)) ids && fE ids (hout.map (·.1)) (obs.drop ids.length))with
   |false=>simp [hb,Cl.ids,bZ]at e
   |true=>
    simp only [hb,Cl.ids,bZ,Bool.and_self,bt]at e;cases e;have hR:Je P pv f args hin-> ∃ids' args hin,Je P pv f args hin/\gT xs=some args/\bJ ids' obs=some hin/\(bZ (args.flatMap SV.bP) ids' && bZ (dF (obs.take ids'.length)) ids')=true/\(iJ.isR (.call ids res hout) ids'\/ ∃res' hout',iJ.call ids res hout= .call ids' res' hout'):=fun hf=>by
     simp only [cd]at hb;exact⟨ids,args,hin,hf,hargs,hzip,by rw [hb.1.1,hb.1.2];rfl, .inr ⟨res,hout,rfl⟩⟩
    have h1:bif Pb hout then Je P pv f args hin else Fn P f args hin res hout:=hc.1
    cases hm:Pb hout with
    |true=>rw [hm]at h1;exact .inr (hR h1)
    |false=>
     rw [hm]at h1;left;simp only [hb,Cl.ids,bZ,Bool.and_self,bt];exact⟨hm,_,rfl,⟨h1,trivial⟩,rfl,rfl⟩
  ·cases e
 ·rename_i ids res;simp only at e ⊢;split at e
  ·rename_i args hin hargs hzip;cases hb:(bZ (args.flatMap SV.bP) ids && bZ (dF (obs.take ids.length)) ids)with
   |false=>simp [hb]at e
   |true=>
    simp only [hb,bt]at e;cases e;have h1:bif Pb hin then Je P pv f args hin else Fn P f args hin res hin:=hc.1
    have h2:Fn P f args hin res hin\/Je P pv f args hin:=by
     cases hm:Pb hin with
     |true=>rw [hm]at h1;exact .inr h1
     |false=>rw [hm]at h1;exact .inl h1
    rcases h2 with hf|hf
    ·left;simp only [hb,bt];exact⟨rfl,_,rfl,⟨hf,trivial⟩,rfl,rfl⟩
    ·right;exact⟨ids,args,hin,hf,hargs,hzip,hb, .inl ⟨_,rfl⟩⟩
  ·cases e
 ·cases e
theorem DC: ∀{is:List Nat} {os os':List (Option (Option Ob))} {m:List (Nat × Option Ob)},is.length<=os.length->bJ is (os++os')=some m->bJ is os=some m
 |[],_,_,_,_,h=>h
 |i::is,some (some o)::os,os',m,hl,h=>by
  simp only [dE,bJ]at h ⊢;split at h;·rename_i l hz;rw [DC (by simpa using hl) hz];exact h
  ·cases h
 |_::_,[],_,_,hl,_=>by simp at hl
 |_::_,none::_,_,_,_,h=>by simp [bJ]at h
 |_::_,some none::_,_,_,_,h=>by simp [bJ]at h
theorem Oc {Fc Fc':Cl->List SV->List (Nat × Option Ob)->TV->List (Nat × Option Ob)->Prop} {fresh:Nat} {an:iJ} {op:Op} {xs:List TV} {obs:List (Option (Option Ob))} (h: ∀f us ts,op≠ .call {callee:= .value f,args:=us,argTypes:=ts}):
  QH Fc T fresh an op xs obs=QH Fc' T fresh an op xs obs:=by
 cases op with
 |call c=>
  obtain⟨callee,us,ts⟩:=c;cases callee with
  |value f=>exact absurd rfl (h f us ts)
  |builtin b=>cases b<;>rfl
  |invoke=>rfl
 |makeFunc fn _ _=>cases fn<;>rfl
 |makeMap _ m=>cases m<;>rfl
 |slice _ _ l u m=>cases l<;>cases u<;>cases m<;>rfl
 |_=>rfl
variable {yb:Nat->Bool} {N:Nat} {rd:Option Nat} {Q:Exit->Act->World->Prop} {r:RS}
theorem Dz (hT:kg P T) {an:iJ} (hn:VK an=true) {fresh:Nat} {xs:List TV} {obs:List (Option (Option Ob))} {E:Eff} (he:QH (Nu P pv) T fresh an o.op xs obs=some E) (hc:All E.conds)
  (hobs:obs=(foot an fresh o.op xs).map h) (fr:Fr B ρ F w) (hi:HI B ρ F w h) (hx:dG ρ F w xs (o.op.operands.toList.map a.eval)) (hm:PX an=true-> ∃f us ts,o.op= .call {callee:= .value (.func f),args:=us,argTypes:=ts}):
  (PX an=false/\Good P B ρ F w h o a E.tv E.hd)\/ ∀(r:Option Nat) (K:Act->World->Prop) (Q:Exit->Act->World->Prop),(∀ρ' F' w',Gr ρ F w ρ' F' w'->Fr B ρ' F' w'->HI B ρ' F' w' h->Q (.panic [{v:=pv,recovered:=false}]) a w')->o.wpIn (FW r) 0 P a w K Q:=by
 by_cases hv: ∃f us ts,o.op= .call {callee:= .value f,args:=us,argTypes:=ts}
 ·obtain⟨f,args,ats,hop⟩:=hv;have fin: ∀{fid:Nat} {ys:List TV} {vs:List Value},iO (Nu P pv) an (.fn fid) ys obs=some E->dG ρ F w ys vs->(execOp a.eval o).run P w=(callFunc fid vs.toArray).run P w->
    (PX an=false/\Good P B ρ F w h o a E.tv E.hd)\/ ∀(r:Option Nat) (K:Act->World->Prop) (Q:Exit->Act->World->Prop),(∀ρ' F' w',Gr ρ F w ρ' F' w'->Fr B ρ' F' w'->HI B ρ' F' w' h->Q (.panic [{v:=pv,recovered:=false}]) a w')->o.wpIn (FW r) 0 P a w K Q:=by
   intro fid ys vs he hys hrun;rcases aaN hn he hc with⟨e0,E',e1,e2,e3,e4⟩|⟨ids,sargs,hin,hfn,hargs,hzip,hb,han⟩
   ·left;rw [<-e3,<-e4];exact⟨e0,sO rfl e1 e2 (fun ids res hout e=>by rw [hobs,hop,e];rfl) (fun ids res e=>by rw [hobs,hop,e];rfl) (fun ids res b c e=>by rw [hobs,hop,e];rfl) hrun fr hi hys⟩
   ·right;intro r K Q hpan;have hob: ∃l,obs=ids.map h++l:=by
     rcases han with⟨res,e⟩|⟨res,hout,e⟩;·exact⟨[],by rw [hobs,hop,e,cV];rfl⟩
     ·exact⟨(hout.map (·.1)).map h,by rw [hobs,hop,e,<-List.map_append];rfl⟩
    obtain⟨l,hob⟩:=hob;rw [hob]at hzip hb;have hlen:(ids.map h).length=ids.length:=by simp
    rw [eQ (by rw [hlen];exact cx _),List.take_of_length_le (by rw [hlen];exact cx _)]at hb;exact QM (DC (by rw [hlen];exact cx _) hzip) hargs hb hfn hrun fr hi hys r K Q hpan
  have hops:(Op.call {callee:=Callee.value f,args:=args,argTypes:=ats}).operands.toList.map a.eval=a.eval f::args.toList.map a.eval:=by simp [Op.operands,Call.operands]
  rw [hop,hops]at hx;rw [hop]at he;unfold QH at he;simp only at he;split at he
  ·rename_i fid n cap us;obtain⟨⟨vs,hv,hn,hcap⟩,hx2⟩:=hx;have hl:bO ρ F w (takeC cap 0 n) vs:=by
    refine bO.jJ (by rw [fJ,hn]) fun j c hj=> ?_;obtain⟨hlt,rfl⟩:=ku cap 0 n j c hj;have hg:=cR (l:=vs) (i:=j) (by omega);exact⟨_,hg,by rw [cC];exact hcap j _ hg⟩
   refine fin he (vs:=args.toList.map a.eval++vs) (hx2.append (qB hl)) ?_;rw [show(args.toList.map a.eval++vs).toArray=args.map a.eval++vs.toArray from Array.ext' (by simp)];simp [execOp,hop,resolve,hv,Deferred.ofValue,invoke]
  ·rename_i fid n cap us;obtain⟨⟨vs,hv,hn,hcap⟩,hx2⟩:=hx;have hl:bO ρ F w (takeC cap 0 n) vs:=by
    refine bO.jJ (by rw [fJ,hn]) fun j c hj=> ?_;obtain⟨hlt,rfl⟩:=ku cap 0 n j c hj;have hg:=cR (l:=vs) (i:=j) (by omega);exact⟨_,hg,by rw [cC];exact hcap j _ hg⟩
   refine fin he (vs:= .agg vs.toArray::args.toList.map a.eval) ⟨⟨vs,rfl,hl⟩,hx2⟩ ?_;rw [show(Value.agg vs.toArray::args.toList.map a.eval).toArray= #[Value.agg vs.toArray]++args.map a.eval from Array.ext' (by simp)];simp [execOp,hop,resolve,hv,Deferred.ofValue,invoke]
  ·rename_i fid nf n cap us;cases hnf:Nat.ble nf n with
   |false=>simp [hnf]at he
   |true=>
    simp only [hnf,bt]at he;have hle:=cj hnf;obtain⟨⟨vs,hv,hn,hcap⟩,hx2⟩:=hx;have hl1:bO ρ F w (dS cap 0 nf) (vs.take nf):=by
     refine bO.jJ (by rw [jb];simp;omega) fun j c hj=> ?_;obtain⟨hlt,rfl⟩:=ni cap 0 nf j c hj;have hg:=cR (l:=vs) (i:=j) (by omega);exact⟨_,by rw [List.getElem?_take,ci hlt];exact hg,by rw [cC];exact hcap j _ hg⟩
    have hl2:bO ρ F w (dS cap nf (n - nf)) (vs.drop nf):=by
     refine bO.jJ (by rw [jb];simp;omega) fun j c hj=> ?_;obtain⟨hlt,rfl⟩:=ni cap nf (n - nf) j c hj;have hg:=cR (l:=vs) (i:=nf+j) (by omega);exact⟨_,by rw [List.getElem?_drop];exact hg,hcap (nf+j) _ hg⟩
    refine fin he (vs:=vs.take nf++args.toList.map a.eval++vs.drop nf) (((qB hl1).append hx2).append (qB hl2)) ?_;rw [show(vs.take nf++args.toList.map a.eval++vs.drop nf).toArray=(vs.take nf).toArray++args.map a.eval++(vs.drop nf).toArray from Array.ext' (by simp)];simp [execOp,hop,resolve,hv,Deferred.ofValue,invoke]
  ·rename_i b us;left;have e2:QH (vF P) T fresh an o.op (.v (.one (.yl b))::us) obs=some E:=by rw [hop];exact he
   refine⟨?_,BD hT e2 hc hobs fr hi (by rw [hop,hops];exact hx)⟩;cases hq:PX an with
   |false=>rfl
   |true=>
    obtain⟨f',us',ts',e'⟩:=hm hq;rw [hop]at e';cases e';obtain⟨⟨k,base,cap,_,hv⟩,_⟩:=hx;simp [Act.eval]at hv
  ·cases he
 ·left;have e:QH (vF P) T fresh an o.op xs obs=some E:=by
   rw [Oc (Fc':=Nu P pv) fun f us ts e=>hv ⟨f,us,ts,e⟩];exact he
  refine⟨?_,BD hT e hc hobs fr hi hx⟩;cases hq:PX an with
  |false=>rfl
  |true=>
   obtain⟨f',us',ts',e'⟩:=hm hq;exact absurd ⟨_,_,_,e'⟩ hv
theorem Q6 (hT:kg P T) {an:iJ} (hn:VK an=true) (hm:PX an=true-> ∃f us ts,o.op= .call {callee:= .value (.func f),args:=us,argTypes:=ts})
  (hQ: ∀a w,RC B yb N r a w->Q (.panic [{v:=pv,recovered:=false}]) a w):Ya (Nu P pv) P T B yb N rd Q r o an:=by
 intro fresh xs obs E a w ρ F K he hc hobs fr hi hs dn sz hx hK;rcases Dz hT hn he hc hobs fr hi hx hm with⟨_,hg⟩|hp;·exact hg rd K Q hK
 ·exact hp rd K Q fun ρ' F' w' g f' hi'=>hQ a w' ⟨⟨ρ',F',f',hi',fun t e ht=>by
   obtain⟨u,hu,h1,h2⟩:=hs t e ht;exact⟨u,hu,fun hg=>(h1 hg).gr g,h2⟩,dn.gr g⟩,sz⟩
end
section
variable {ren:List (Nat × Nat)} {h h':Hp}
theorem AJ: ∀(c:CV),nQ ⟨[],ren⟩ h c=nQ ⟨[],ren⟩ h' c:=by
 intro c;induction c with
 |fn g nf n cap ih=>
  have e: ∀j,nQ ⟨[],ren⟩ h (cap j)=nQ ⟨[],ren⟩ h' (cap j):=ih;simp only [nQ,e]
 |_=>rfl
theorem D6: ∀(l:List CV),Ei ⟨[],ren⟩ h l=Ei ⟨[],ren⟩ h' l
 |[]=>rfl
 |c::l=>by simp only [Ei];rw [AJ (h:=h) (h':=h') c,D6 l]
theorem Ky: ∀(s:SV),CZ ⟨[],ren⟩ h s=CZ ⟨[],ren⟩ h' s
 | .one c=>by simp only [CZ];rw [AJ (h:=h) (h':=h') c]
 | .agg l=>by simp only [CZ];rw [D6 (h:=h) (h':=h') l]
theorem H8: ∀(l:List SV),wB ⟨[],ren⟩ h l=wB ⟨[],ren⟩ h' l
 |[]=>rfl
 |c::l=>by simp only [wB];rw [Ky (h:=h) (h':=h') c,H8 l]
theorem JB: ∀(s:TV),zf ⟨[],ren⟩ h s=zf ⟨[],ren⟩ h' s
 | .v s=>by simp only [zf];rw [Ky (h:=h) (h':=h') s]
 | .eB l=>by simp only [zf];rw [H8 (h:=h) (h':=h') l]
theorem Gu: ∀(l:List (Nat × TV)),xD ⟨[],ren⟩ h l=xD ⟨[],ren⟩ h' l
 |[]=>rfl
 |(_,s)::l=>by simp only [xD];rw [JB (h:=h) (h':=h') s,Gu l]
theorem Q5 (o:Ob):lX ⟨[],ren⟩ h o=lX ⟨[],ren⟩ h' o:=by
 cases o with
 |cells E cs=>simp only [lX];rw [D6 (h:=h) (h':=h') cs]
 |loop r st sl=>simp only [lX];rw [Gu (h:=h) (h':=h') sl]
 |rows E esz len el ov=>
  cases ov with
  |none=>rfl
  |some o=>obtain⟨i,j,c⟩:=o;simp only [lX];rw [AJ (h:=h) (h':=h') c]
 |gm K V E l ov=>
  cases ov with
  |none=>rfl
  |some o=>obtain⟨n,c⟩:=o;simp only [lX];rw [AJ (h:=h) (h':=h') c]
 |_=>rfl
theorem JN {s s':Slots}: ∀{ts:List Nat},(∀t∈ts,s t=s' t)->EN ⟨[],ren⟩ h s ts=EN ⟨[],ren⟩ h' s' ts
 |[],_=>rfl
 |t::ts,e=>by
  simp only [EN];rw [e t (by simp),JN (ts:=ts) fun t ht=>e t (by simp [ht])];simp only [JB (h:=h) (h':=h')]
theorem Kj: ∀{l:List (Nat × Nat)},(∀p∈l,h p.1=h' p.1)->Br ⟨[],ren⟩ h l=Br ⟨[],ren⟩ h' l
 |[],_=>rfl
 |(b,b')::l,e=>by
  simp only [Br];rw [e (b,b') (by simp),Kj (l:=l) fun p hp=>e p (by simp [hp])];simp only [Q5 (h:=h) (h':=h')]
end
def Kept (ks kh:List Nat) (r0 r:RS):Prop:=(∀t∈ks,r.s t=r0.s t)/\ ∀b∈kh,r.h b=r0.h b
theorem Kz {L ks kh:List Nat} {r0 r:RS} {cs:List Prop} (k:Kept ks kh r0 r):finish L ⟨[],idR kh⟩ ks cs r=finish L ⟨[],idR kh⟩ ks cs r0:=by
 unfold finish;rw [JN (s:=r.s) (s':=r0.s) (h:=r.h) (h':=r0.h) k.1];simp only;rw [Kj (h:=r.h) (h':=r0.h) fun p hp=>by
  obtain⟨b,hb,rfl⟩:=List.mem_map.1 hp;exact k.2 b hb]
theorem Kept.step {ks kh:List Nat} {r0 r:RS} {d:Option Nat} {e:Qv} {l:List (Nat × Option Ob)} (k:Kept ks kh r0 r) (hd: ∀x,d=some x->x ∉ ks) (hl: ∀b∈l.map (·.1),b ∉ kh):Kept ks kh r0 ⟨uo r.s d e,upd r.h l⟩:=by
 refine⟨fun t ht=> ?_,fun b hb=> ?_⟩
 ·rw [<-k.1 t ht];cases d with
  |none=>rfl
  |some x=>
   show uo r.s (some x) e t=r.s t;rw [nM,ce (fun(e':t=x)=>hd x rfl (e' ▸ ht))]
 ·rw [<-k.2 b hb];show upd r.h l b=r.h b;simp only [upd];rw [bL fun hm=>hl b hm hb]
def Dn (o:Oper):Bool:=match o.op with
 | .call {callee:= .value (.func _),args:=_,argTypes:=_}=>true
 |_=>false
theorem H6 {o:Oper} (h:Dn o=true): ∃f us ts,o.op= .call {callee:= .value (.func f),args:=us,argTypes:=ts}:=by
 unfold Dn at h;split at h;·rename_i e;exact⟨_,_,_,e⟩
 ·cases h
def U0 {α:Type}:Option α->Bool
 |none=>true
 |_=>false
def UJ (an:Nat->iJ):List Oper->Nat->Bool
 |[],_=>true
 |o::l,i=>VK (an i) && ((!(PX (an i))||Dn o) && UJ an l (i+1))
theorem M9 {an:Nat->iJ}: ∀{l:List Oper} {k:Nat},UJ an l k=true-> ∀i o,l[i]? =some o->VK (an (k+i))=true/\(PX (an (k+i))=true->Dn o=true)
 |[],_,_,i,o,ho=>by simp at ho
 |x::l,k,h,i,o,ho=>by
  simp only [UJ,cd,cN,c_]at h;cases i with
  |zero=>
   simp at ho;subst ho;exact⟨h.1,fun hm=>h.2.1.elim (fun e=>by rw [Nat.add_zero]at hm;rw [e]at hm;cases hm) id⟩
  |succ i=>
   have:=M9 h.2.2 i o (by simpa using ho)
   rwa [show k+1+i=k+(i+1) by omega]at this
def NT (ops:List Oper) (an:Nat->iJ) (i0:Nat):Bool:=match ops[i0]? with
 |some o=>PX (an i0) && (Dn o && U0 o.guard)
 |none=>false
def UK (kh:List Nat) (i0:Nat):List (Nat × oV)->Bool
 |[]=>false
 |(i,x)::l=>bif Nat.beq i i0 then true else Cw x.wr kh && UK kh i0 l
def Ur (kh:List Nat) (i0:Nat) (cl:Nat->List Nat) (info:Nat->oV):Nat->Bool
 |0=>true
 |n+1=>Ur kh i0 cl info n && (Nat.beq n i0||(fK i0 (cl n)||Cw (info n).wr kh))
theorem MZ {kh:List Nat} {i0:Nat} {cl:Nat->List Nat} {info:Nat->oV}: ∀{n:Nat},Ur kh i0 cl info n=true-> ∀x,x<n->x=i0\/i0∈cl x\/ ∀b∈(info x).wr,b ∉ kh
 |0,_,x,hx=>by omega
 |n+1,h,x,hx=>by
  simp only [Ur,cd,cN]at h;by_cases e:x=n
  ·subst e;rcases h.2 with h|h|h
   ·exact .inl (bv h)
   ·exact .inr (.inl (jw.1 h))
   ·exact .inr (.inr (ny h))
  ·exact MZ h.1 x (by omega)
theorem DZ: ∀{l:List Oper} {i:Nat} {o:Oper} {d:Nat},l[i]? =some o->o.dst=some d->d∈dstsOf l
 |[],i,o,d,h,_=>by simp at h
 |x::l,i,o,d,h,hd=>by
  unfold dstsOf;cases i with
  |zero=>simp at h;subst h;rw [hd];simp
  |succ i=>
   have:=DZ (l:=l) (i:=i) (by simpa using h) hd;split;·exact cm _ this
   ·exact this
section
variable {P:Program} {B:Base} {T:List (Nat × TI)} {ops:Array Oper} {yb:Nat->Bool} {an:Nat->iJ} {fr:Nat->Nat} {N:Nat} {rd:Option Nat} {Q:Exit->Act->World->Prop} {pv:Value}
theorem Dw (hT:kg P T) {i:Nat} {r:RS} {c:Core} {a:Act} {w:World} {K:Act->World->Prop} (hm:NT ops.toList an i=true) (hn:VK (an i)=true) (hst:core (Nu P pv) T ops.toList yb an fr N i r.s r.h=some c) (hc:All c.conds) (hrc:RC B yb N r a w)
  (hQ: ∀a w,RC B yb N r a w->Q (.panic [{v:=pv,recovered:=false}]) a w):wpOpIn (FW rd) 0 P ops Q i K a w:=by
 obtain⟨⟨ρ,F,hfr,hhi,hs,dn⟩,sz⟩:=hrc;unfold NT at hm;unfold core at hst;cases ho:ops.toList[i]? with
 |none=>rw [ho]at hm;cases hm
 |some o=>
  rw [ho]at hm hst;simp only [cd]at hm;obtain⟨h1,h2,h3⟩:=hm;have ho':ops[i]? =some o:=by simpa using ho
  have hg:o.guard=none:=by
   cases e:o.guard with
   |none=>rfl
   |some x=>rw [e]at h3;cases h3
  obtain⟨f,us,ts,hop⟩:=H6 h2;have hgd:guardOf ops.toList yb r.s o=some ([],[]):=by unfold guardOf;rw [hg]
  simp only [hgd]at hst;cases hd:Co N o.dst with
  |false=>rw [hd]at hst;simp at hst
  |true=>
   rw [hd]at hst;simp only [bt]at hst;have hw:Region.wanted o (yielded ops a.tmps)=true:=by simp [Region.wanted,hg]
   unfold wpOpIn;simp only [ho',hw,if_true];split at hst;·rename_i e;rw [hop]at e;cases e
   ·split at hst
    ·rename_i e;rw [e]at h1;cases h1
    ·split at hst
     ·cases hst
     ·rename_i xs hxs;split at hst
      ·cases hst
      ·rename_i E hE;cases hb:bZ (E.hd.map (·.1)) (foot (an i) (fr i) o.op xs)with
       |false=>rw [hb]at hst;simp at hst
       |true=>
        rw [hb]at hst;simp only [bt,Option.some.injEq]at hst;subst hst;simp only at hc;rw [aW,aW]at hc;rcases Dz hT hn hE (Bd hc.2.1 trivial) rfl hfr hhi (FJ hs (g:=[]) trivial hxs) (fun _=> ⟨f,us,ts,hop⟩)with⟨h4,_⟩|hp;·rw [h4]at h1;cases h1
        ·exact hp rd K Q fun ρ' F' w' g f' hi'=>hQ a w' ⟨⟨ρ',F',f',hi',fun t e ht=>by
          obtain⟨u,hu,q1,q2⟩:=hs t e ht;exact⟨u,hu,fun hg=>(q1 hg).gr g,q2⟩,dn.gr g⟩,sz⟩
end
section
variable (Fc:Cl->List SV->List (Nat × Option Ob)->TV->List (Nat × Option Ob)->Prop) (T:List (Nat × TI)) (ops:Array Oper) (dr:Bool) (N:Nat) (L:List Nat)
def Wo (ops:Array Oper) (i:Nat):List Nat:=match get (Z0 ops) i with|some l=>l|none=>[]
def oJ (ops:List Oper) (info:Nat->oV) (cl:Nat->List Nat) (live:Nat->Bool):Nat->Bool
 |0=>true
 |n+1=>oJ ops info cl live n && (!(live n)||go n n)
 where
 go (x:Nat):Nat->Bool
  |0=>true
  |a+1=>go x a && (!(live a)||(fK a (cl x)||indep ops info a x))
theorem vg {ops:List Oper} {info:Nat->oV} {cl:Nat->List Nat} {live:Nat->Bool}: ∀{n:Nat},oJ ops info cl live n=true-> ∀x,x<n->live x=true-> ∀a,a<x->live a=true->a∈cl x\/indep ops info a x=true
 |0,_,x,hx,_,_,_,_=>by omega
 |n+1,h,x,hx,hl,a,ha,hla=>by
  simp only [oJ,cd,cN,c_]at h;by_cases e:x=n
  ·subst e;have key: ∀m,oJ.go ops info cl live x m=true-> ∀a,a<m->live a=true->a∈cl x\/indep ops info a x=true:=by
    intro m;induction m with
    |zero=>intro _ a ha;omega
    |succ m ih=>
     intro hm a ha hla;simp only [oJ.go,cd,cN,c_]at hm;by_cases e:a=m
     ·subst e;rcases hm.2 with h|h|h
      ·rw [h]at hla;cases hla
      ·exact .inl (jw.1 h)
      ·exact .inr h
     ·exact ih hm.1 a (by omega) hla
   rcases h.2 with h2|h2;·rw [h2]at hl;cases hl
   ·exact key x h2 a ha hla
  ·exact vg h.1 x (by omega) hl a ha hla
def Fj (ops:Array Oper) (i0 i:Nat):Bool:= !(fK i0 (Wo ops i))
def SC (i0:Nat):List Nat:=bif dr then(List.range ops.size).filter (Fj ops i0)else List.range (i0+1)
def VE (i0:Nat) (ks kh:List Nat) (x:RX) (an:List (Nat × iJ)) (st:St):Option RR:=
 let yb:=YH x.ov (runT Fc T ops.toList (fun _=>false) (VU x.ov) (sU x an) (K6 x.fr) N (SC ops dr i0) (lm st))
 match runT Fc T ops.toList yb (fun j _=>yb j) (sU x an) (K6 x.fr) N (SC ops dr i0) (lm st)with
 |some (its,_,inf)=>
  match finish L ⟨[],idR kh⟩ ks [] (lm st)with
  |some (cs,st')=>some ⟨its,wH cs && (NT ops.toList (sU x an) i0 && (UJ (sU x an) ops.toList 0 && (Cw (dstsOf ops.toList) ks &&
    bif dr then xW ops.toList (Wo ops) ops.size && (oJ ops.toList (rX inf) (Wo ops) (Fj ops i0) ops.size && Ur kh i0 (Wo ops) (rX inf) ops.size)else UK kh i0 inf))),yb,[],st'⟩
  |none=>none
 |none=>none
end
section
variable {rd:Option Nat} {P:Program} {B:Base} {N:Nat} {L:List Nat} {T:List (Nat × TI)} {Q:Exit->St->Prop} {st:St} {pv:Value}
theorem GN {Fc:Cl->List SV->List (Nat × Option Ob)->TV->List (Nat × Option Ob)->Prop} {ops:List Oper} {yb:Nat->Bool} {an:Nat->iJ} {fr:Nat->Nat} {i:Nat} {l:List Nat} {r r':RS} {cs:List Prop} {inf:List (Nat × oV)} (h:wX Fc T ops yb an fr N (i::l) r=some (cs,r',inf)):
  ∃c cs' inf',core Fc T ops yb an fr N i r.s r.h=some c/\wX Fc T ops yb an fr N l ⟨uo r.s ((ops[i]?).bind (·.dst)) c.ent,upd r.h c.hd⟩=some (cs',r',inf')/\cs=c.conds++cs'/\inf=(i,⟨c.ft,c.hd.map (·.1)⟩)::inf':=by
 simp only [wX]at h;split at h
 ·rename_i c e;split at h
  ·rename_i e2;cases h;exact⟨c,_,_,e,e2,rfl,rfl⟩
  ·cases h
 ·cases h
theorem Nf (hT:kg P T) {ops:Array Oper} {yb:Nat->Bool} {an:Nat->iJ} {fr:Nat->Nat} {i0:Nat} {ks kh:List Nat} {r0:RS} {Q:Exit->Act->World->Prop} (hi0:NT ops.toList an i0=true) (hdst: ∀(i d:Nat),(ops.toList[i]?).bind (fun o=>o.dst)=some d->d ∉ ks)
  (hnoG: ∀i o,ops[i]? =some o->VK (an i)=true/\(PX (an i)=true-> ∃f us ts,o.op= .call {callee:= .value (.func f),args:=us,argTypes:=ts})) (hQ: ∀r',Kept ks kh r0 r'-> ∀a w,RC B yb N r' a w->Q (.panic [{v:=pv,recovered:=false}]) a w) {l2:List Nat}:
  ∀{l1:List Nat} {r r':RS} {cs:List Prop} {inf:List (Nat × oV)} {a:Act} {w:World},wX (Nu P pv) T ops.toList yb an fr N (l1++[i0]) r=some (cs,r',inf)->All cs->UK kh i0 inf=true->Kept ks kh r0 r->RC B yb N r a w->wpOpsIn (FW rd) 0 P ops Q (l1++i0::l2) a w
 |l1,r,r',cs,inf,a,w,hr,hc,hk,hkp,hrc=>by
  have hex: ∃o,ops[i0]? =some o:=by
   unfold NT at hi0;cases ho:ops.toList[i0]? with
   |none=>rw [ho]at hi0;cases hi0
   |some o=>exact⟨o,by simpa using ho⟩
  obtain⟨o0,ho0⟩:=hex;cases l1 with
  |nil=>
   rw [cW]at hr ⊢;obtain⟨c,cs2,inf2,g1,g2,rfl,rfl⟩:=GN hr;rw [aW]at hc;rw [wpOpsIn_cons];exact Dw hT hi0 (hnoG _ _ ho0).1 g1 hc.1 hrc fun a' w' hrc'=>hQ _ hkp a' w' hrc'
  |cons y l1=>
   rw [dE]at hr ⊢;obtain⟨c,cs2,inf2,g1,g2,rfl,rfl⟩:=GN hr;rw [aW]at hc;rw [wpOpsIn_cons];by_cases e:y=i0
   ·subst e;exact Dw hT hi0 (hnoG _ _ ho0).1 g1 hc.1 hrc fun a' w' hrc'=>hQ _ hkp a' w' hrc'
   ·unfold UK at hk;rw [l9 e]at hk;simp only [bu,cd]at hk;refine wE (fun o ho=>Q6 hT (hnoG _ _ ho).1 (hnoG _ _ ho).2 fun a w hrc=>hQ _ hkp a w hrc) (by unfold step;rw [g1]) hc.1 hrc fun a' w' hrc'=>
     Nf hT hi0 hdst hnoG hQ (l1:=l1) g2 hc.2 hk.2 (hkp.step (hdst y) (ny hk.1)) hrc'
theorem Sw (hT:kg P T) (hm:P.follows .mixedOrders=true) {id:Nat} {ops:Array Oper} {dr:Bool} {i0:Nat} {ks kh:List Nat} {x:RX} {an:List (Nat × iJ)} {R:RR} (he:VE (Nu P pv) T ops dr N L i0 ks kh x an st=some R) (hok:R.ok=true)
  (hc: ∀it∈R.its,All (it.P R.yb)) (hQ:Q (.panic [{v:=pv,recovered:=false}]) R.st):jV rd P B N L (.region id ops dr) Q st:=by
 unfold VE at he;simp only at he;generalize YH x.ov (runT (Nu P pv) T ops.toList (fun _=>false) (VU x.ov) (sU x an) (K6 x.fr) N (SC ops dr i0) (lm st))=yb at he;split at he
 ·rename_i its r inf hrun;split at he
  ·rename_i cs st1 hfin;cases he;simp only [cd]at hok;simp only at hc hQ;obtain⟨o1,o2,o3,o4,o5⟩:=hok;have hcs:=Lp o1;subst hcs;have hall:All (its.flatMap (Ri.P yb)):=by
    clear hrun hfin hQ;induction its with
    |nil=>trivial
    |cons i l ih=>rw [List.flatMap_cons,aW];exact⟨hc i (by simp),ih fun j hj=>hc j (by simp [hj])⟩
   have hI:=wK hrun;have hi0:i0<ops.size:=by
    unfold NT at o2;rcases Nat.lt_or_ge i0 ops.size with h|h;·exact h
    ·have:ops.toList[i0]? =none:=by simp [h]
     rw [this]at o2;cases o2
   have hnoG: ∀i o,ops[i]? =some o->VK (sU x an i)=true/\(PX (sU x an i)=true-> ∃f us ts,o.op= .call {callee:= .value (.func f),args:=us,argTypes:=ts}):=fun i o ho=>by
    have:=M9 o3 i o (by simpa using ho);rw [cC]at this;exact⟨this.1,fun h=>H6 (this.2 h)⟩
   have hdst: ∀(i d:Nat),(ops.toList[i]?).bind (fun o=>o.dst)=some d->d ∉ ks:=fun i d hd=>by
    cases ho:ops.toList[i]? with
    |none=>rw [ho]at hd;cases hd
    |some o=>rw [ho]at hd;exact ny o4 d (DZ ho hd)
   have hend: ∀r',Kept ks kh (lm st) r'-> ∀a w,Conc B N L st a w-> ∀a' w',RC B yb N r' a' w'-> ∃st',Q (.panic [{v:=pv,recovered:=false}]) st'/\Conc B N L st' a' w':=fun r' hk a w hcn a' w' hrc=>
    ⟨st1,hQ,lI (cs:=[]) (cs':=[]) (by rw [Kz hk];exact hfin) trivial hrc hcn.ids⟩
   intro a w hconc;cases dr with
   |false=>
    have hsp:List.range ops.size=List.range i0++i0::(List.range (ops.size - (i0+1))).map (· +(i0+1)):=by
     have h1:ops.size=i0+1+(ops.size - (i0+1)):=by omega
     conv=>lhs;rw [h1,List.range_add]
     rw [List.range_succ,cQ];congr 2;simp [ea]
    refine wpIn_region ?_;rw [hsp];exact Nf (yb:=yb) (r0:=lm st) hT o2 hdst hnoG (fun r' hk a' w' hrc=>hend r' hk _ _ hconc a' w' hrc) (by rw [<-List.range_succ];exact hI) hall (by simpa using o5) ⟨fun _ _=>rfl,fun _ _=>rfl⟩ (lF hconc)
   |true=>
    simp only [bt,cd]at o5;obtain⟨o5,o6,o7⟩:=o5;have hcd:=E8 hconc;have hlv: ∀{x:Nat},Fj ops i0 x=false->i0∈Wo ops x:=fun h=>by
     unfold Fj at h;rw [Bool.not_eq_false']at h;exact jw.1 h
    have hlist: ∀{listed:Array Bool} {r':RS} {x:Nat},(listed.getD i0 true=false/\Kept ks kh (lm st) r')->listed.size=ops.size->(∀y∈Wo ops x,listed.getD y false=true)->i0 ∉ Wo ops x:=fun{listed r' x} hinv hsz hpre hm=>by
     have h1:=hpre i0 hm;have h2:=hinv.1;have h3:i0<listed.size:=by rw [hsz];exact hi0
     simp [h3]at h1 h2;rw [h1]at h2;cases h2
    refine wpIn_region_any hm (EO (T:=T) (Fc:=Nu P pv) (info:=rX inf) (yb:=yb) (an:=sU x an) (fr:=K6 x.fr) (Fj ops i0) o5 (vg o6) (fun listed r'=>listed.getD i0 true=false/\Kept ks kh (lm st) r')
     (fun listed r' y hinv hsz hy hpre=>by
      cases hl:Fj ops i0 y with
      |true=>rfl
      |false=>exact absurd (hlv hl) (hlist hinv hsz hpre)) (fun listed r' r1 y hinv hsz hy hyl hpre hst K a w hrc hK=> ?_)
     ops.size _ (lm st) r a _ (by simp) ⟨by simp [hi0],fun _ _=>rfl,fun _ _=>rfl⟩ (fun i o ho hl=> ?_) ?_ ?_ (lF hcd) fun listed' a' w' hnil hinv _=> ?_)
    ·obtain⟨c,g1,g2,g3,g4,rfl⟩:=hst;by_cases e:y=i0
     ·subst e;have ho: ∃o,ops[y]? =some o:=⟨ops[y],by simp [hi0]⟩;obtain⟨o,ho⟩:=ho;exact Dw hT o2 (hnoG _ _ ho).1 g1 g2 hrc fun a' w' hrc'=>hend _ hinv.2 _ _ hcd a' w' hrc'
     ·rcases MZ o7 y hy with h|h|h
      ·exact absurd h e
      ·exact absurd h (hlist hinv hsz hpre)
      ·refine wE (fun o ho=>Q6 hT (hnoG _ _ ho).1 (hnoG _ _ ho).2 fun a w hrc=>hend _ hinv.2 _ _ hcd a w hrc) (by unfold step;rw [g1]) g2 hrc fun a' w' hrc'=>hK ⟨?_,hinv.2.step (hdst y) (by rw [g4];exact h)⟩ a' w' hrc';rw [getD_set_ne true e];exact hinv.1
    ·have:i<ops.size:=(Array.getElem?_eq_some_iff.1 ho).1;simp [this]at hl
    ·refine dC (List.length_filter_le _ _) (by simp)
    ·have hall':((List.range ops.size).filter fun i=> !(Array.replicate ops.size false).getD i true && Fj ops i0 i)=SC ops true i0:=by
      unfold SC;simp only [bt];apply List.filter_congr;intro i hi;rw [cY]at hi;simp [hi]
     rw [hall'];refine qF hI hall ?_ fun i y hi=>by simp [rX,hi]
     exact List.Pairwise.filter _ List.nodup_range
    ·exfalso;have:i0∈((List.range ops.size).filter fun i=> !listed'.getD i true):=by
      rw [c8,cY];exact⟨hi0,by rw [hinv.1];rfl⟩
     rw [hnil]at this;simp at this
  ·cases he
 ·cases he
end
structure IS where
 act:St->List Ck
 want:St->List Ck
 nxt:St->St
 ok: ∀B N L st,act st=want st->jl B N L st (nxt st)
structure ISp where
 p:Prop
 act:St->List Ck
 want:St->List Ck
 nxt:St->St
 ok:p-> ∀B N L st,act st=want st->jl B N L st (nxt st)
def DT:List Ck->List Ck->Option CP
 |[],[]=>some []
 |x::xs,y::ys=>match DT xs ys with|some l=>some ((x,y)::l)|none=>none
 |_,_=>none
theorem Dk: ∀{l m:List Ck} {c:CP},DT l m=some c->c.ok->l=m
 |[],[],_,_,_=>rfl
 |x::xs,y::ys,c,h,hc=>by
  unfold DT at h;split at h;·rename_i l e;cases h;rw [show x=y from hc.1,Dk e hc.2]
  ·cases h
 |[],_::_,_,h,_=>by cases h
 |_::_,[],_,h,_=>by cases h
structure Tg (β:Type) where
 ks:List Nat
 kh:List Nat
 s:β->List (Nat × TV)
 h:β->List (Nat × Option Ob)
def I5 {α:Type} (l:List (Nat × α)):List Nat->List (Nat × α)
 |[]=>[]
 |k::ks=>match get l k with|some x=>(k,x)::I5 l ks|none=>I5 l ks
def Tg.at {β:Type} (t:Tg β) (st:St) (z:β):St:=⟨t.s z++I5 st.slots t.ks,t.h z++I5 st.heap t.kh⟩
inductive Sc:Type->Type 1 where
 |en {R:Type} (r:R) (fz:List Nat) (rn:List (Nat × Nat)):Sc R
 |no {R:Type}:Sc R
 |rg {R:Type} (x:RX) (cs:List Cs) (k:Sc R):Sc R
 |bd {R T:Type} (o:Option T) (q:T->Prop) (h: ∀y,o=some y->q y) (an:T->List (Nat × iJ)) (k:T->Sc R):Sc R
 |pb {R T:Type} (o:Option (Option T)) (q:T->Prop) (qn:Prop) (h: ∀y,o=some (some y)->q y) (hn:o=some none->qn) (an:T->List (Nat × iJ)) (an0:List (Nat × iJ)) (k:T->Sc R) (p:Sc R):Sc R
 |as {R:Type} (c:Prop) (d:Decidable c) (l:List Prop) (h:c->All l) (k:Sc R):Sc R
 |it {R:Type} (a b:Sc R):Sc R
 |tf {R:Type} (v:Bool) (c:List Cs) (k:Sc R):Sc R
 |fk {R:Type} (b:Bool) (x y:Sc R):Sc R
 |im {R:Type} (s:IS) (k:Sc R):Sc R
 |wi {R:Type} (j:Nat) (s:ISp) (k:Sc R):Sc R
 |fz {R:Type} (l:List Nat) (k:Sc R):Sc R
 |ul {R:Type} (n:Nat) (k:Sc R):Sc R
 |ss {R:Type} (k:Sc R):Sc R
 |sp {R σ β:Type} (s0:σ) (t:Tg σ) (u:Tg β) (a:Sc Unit) (body:σ->Sc (bC σ (Ex β R))) (k:β->Sc R):Sc R
 |rf {R:Type} (lb:Nat) (sl:List Nat) (outs:List Code) (w:Option Nat) (jf:Nat) (c:List Cs) (k:Sc R):Sc R
 |jn {R β:Type} (d:Nat) (t:Tg β) (a:Sc (Ex β R)) (k:β->Sc R):Sc R
 |jN {R β:Type} (d:Nat) (t:Tg β) (a:Sc β) (k:β->Sc R):Sc R
 |lp {R σ β:Type} (s0:σ) (fz:List Nat) (rn:List (Nat × Nat)) (t:Tg σ) (u:Tg β) (body:σ->Sc (bC σ (Ex β R))) (k:β->Sc R):Sc R
 |gr {R σ:Type} (b it c K V E:Nat) (l:List (Int × List Int)) (p:Int × List Int->Bool) (mb:Int × List Int->σ->Option (bC σ (Ex Empty R))) (hno: ∀x,p x=false-> ∀s,mb x s=some (.next s)) (x1:RX) (cs1:List Cs) (t:Tg σ) (s0:σ) (fz:List Nat) (rn:List (Nat × Nat)) (body:Int × List Int->σ->Sc (bC σ (Ex Empty R))) (k:σ->Sc R):Sc R
 |pn {R:Type} (pv:Value) (i0:Nat) (ks kh:List Nat) (x:RX) (cs:List Cs) (k:Sc R):Sc R
inductive Tr:Type->Type 1 where
 |bad {R:Type} (m:Nat):Tr R
 |no {R:Type}:Tr R
 |en {R:Type} (r:R):Tr R
 |ck {R:Type} (c:CP) (t:Tr R):Tr R
 |bd {R T:Type} (o:Option T) (k:T->Tr R):Tr R
 |pb {R T:Type} (o:Option (Option T)) (k:T->Tr R) (p:Tr R):Tr R
 |as {R:Type} (c:Prop) (d:Decidable c) (k:Tr R):Tr R
 |it {R:Type} (b:Bool) (x y:Tr R):Tr R
 |jn {R β:Type} (a:Tr (Ex β R)) (k:β->Tr R):Tr R
 |jN {R β:Type} (a:Tr β) (k:β->Tr R):Tr R
 |lp {R σ β:Type} (s0:σ) (body:σ->Tr (bC σ (Ex β R))) (k:β->Tr R):Tr R
 |sp {R σ β:Type} (s0:σ) (a:Tr Unit) (body:σ->Tr (bC σ (Ex β R))) (k:β->Tr R):Tr R
 |gr {R σ:Type} (l:List (Int × List Int)) (p:Int × List Int->Bool) (mb:Int × List Int->σ->Option (bC σ (Ex Empty R))) (s0:σ) (body:Int × List Int->σ->Tr (bC σ (Ex Empty R))) (k:σ->Tr R):Tr R
def eT {T R:Type} (o:Option (Option T)) (k:T->Option R) (p:Option R):Option R:=match o with
 |some (some y)=>k y
 |some none=>p
 |none=>none
theorem LA {T R:Type} {o:Option (Option T)} {k:T->Option R} {p:Option R} {r:R} (h:eT o k p=some r):(∃y,o=some (some y)/\k y=some r)\/(o=some none/\p=some r):=by
 unfold eT at h;split at h;·exact .inl ⟨_,rfl,h⟩
 ·exact .inr ⟨rfl,h⟩
 ·cases h
def Tr.den:{R:Type}->Tr R->Option R
 |_, .bad _=>none
 |_, .no=>none
 |_, .en r=>some r
 |_, .ck _ t=>t.den
 |_, .bd o k=>Option.bind o fun y=>(k y).den
 |_, .pb o k p=>eT o (fun y=>(k y).den) p.den
 |_, .as c d k=> @aX _ c d k.den
 |_, .it b x y=>bif b then x.den else y.den
 |_, .jn a k=>Option.bind a.den fun o=>match o with| .ret v=>some v| .brk z=>(k z).den
 |_, .jN a k=>Option.bind a.den fun z=>(k z).den
 |_, .lp s0 body k=>Option.bind (aI (fun s=>(body s).den) FUEL s0) fun o=>match o with| .ret v=>some v| .brk z=>(k z).den
 |_, .sp s0 a body k=>Option.bind a.den fun _=>Option.bind (aI (fun s=>(body s).den) FUEL s0) fun o=>match o with| .ret v=>some v| .brk z=>(k z).den
 |_, .gr l p mb s0 _ k=>Option.bind (goG l p mb s0) fun o=>match o with| .ret v=>some v| .brk z=>(k z).den
def Tr.ok:{R:Type}->Tr R->Prop
 |_, .bad _=>False
 |_, .no=>True
 |_, .en _=>True
 |_, .ck c t=>c.ok/\t.ok
 |_, .bd _ k=> ∀y,(k y).ok
 |_, .pb _ k p=>(∀y,(k y).ok)/\p.ok
 |_, .as _ _ k=>k.ok
 |_, .it _ x y=>x.ok/\y.ok
 |_, .jn a k=>a.ok/\ ∀z,(k z).ok
 |_, .jN a k=>a.ok/\ ∀z,(k z).ok
 |_, .lp _ body k=>(∀s,(body s).ok)/\ ∀z,(k z).ok
 |_, .sp _ a body k=>a.ok/\(∀s,(body s).ok)/\ ∀z,(k z).ok
 |_, .gr _ _ mb _ body k=>(∀x s,(body x s).ok/\(body x s).den=mb x s)/\ ∀z,(k z).ok
inductive Sd:Type 1 where
 |bad (b:Bool)
 |nil
 |ck (x:Ck) (t:Sd)
 |fn {T:Type} (f:T->Sd)
 |two (x y:Sd)
 |md {T:Type} (o:Option T)
def CP.side (b:Bool):CP->Sd->Sd
 |[],t=>t
 |p::l,t=> .ck (bif b then p.1 else p.2) (CP.side b l t)
def Tr.side (b:Bool):{R:Type}->Tr R->Sd
 |_, .bad _=> .bad b
 |_, .no=> .nil
 |_, .en _=> .nil
 |_, .ck c t=>c.side b (t.side b)
 |_, .bd _ k=> .fn fun y=>(k y).side b
 |_, .pb _ k p=> .two (.fn fun y=>(k y).side b) (p.side b)
 |_, .as _ _ k=>k.side b
 |_, .it _ x y=> .two (x.side b) (y.side b)
 |_, .jn a k=> .two (a.side b) (.fn fun z=>(k z).side b)
 |_, .jN a k=> .two (a.side b) (.fn fun z=>(k z).side b)
 |_, .lp _ body k=> .two (.fn fun s=>(body s).side b) (.fn fun z=>(k z).side b)
 |_, .sp _ a body k=> .two (a.side b) (.two (.fn fun s=>(body s).side b) (.fn fun z=>(k z).side b))
 |_, .gr _ _ mb _ body k=> .two (.fn fun x=> .fn fun s=> .two ((body x s).side b) (.md (bif b then(body x s).den else mb x s))) (.fn fun z=>(k z).side b)
theorem CP.lU: ∀{c:CP} {t t':Sd},c.side true t=c.side false t'->c.ok/\t=t'
 |[],_,_,h=> ⟨trivial,h⟩
 |p::l,t,t',h=>by
  simp only [CP.side,bt,bu,Sd.ck.injEq]at h;have:=CP.lU h.2;exact⟨⟨h.1,this.1⟩,this.2⟩
theorem Sd.o9 {T:Type} {f g:T->Sd} (h:Sd.fn f=Sd.fn g): ∀y,f y=g y:=by
 simp only [Sd.fn.injEq,heq_eq_eq,true_and]at h;exact fun y=>congrFun h y
theorem Sd.Xh {T:Type} {a b:Option T} (h:Sd.md a=Sd.md b):a=b:=by
 simp only [Sd.md.injEq,heq_eq_eq,true_and]at h;exact h
theorem Tr.lU: ∀{R:Type} {t:Tr R},t.side true=t.side false->t.ok:=by
 intro R t;induction t with
 |bad _=>intro h;simp [Tr.side]at h
 |no=>intro _;trivial
 |en _=>intro _;trivial
 |ck c t ih=>intro h;have:=CP.lU h;exact⟨this.1,ih this.2⟩
 |bd o k ih=>intro h y;exact ih y (Sd.o9 h y)
 |pb o k p ih ihp=>intro h;simp only [Tr.side,Sd.two.injEq]at h;exact⟨fun y=>ih y (Sd.o9 h.1 y),ihp h.2⟩
 |as c d k ih=>intro h;exact ih h
 |it b x y ihx ihy=>intro h;simp only [Tr.side,Sd.two.injEq]at h;exact⟨ihx h.1,ihy h.2⟩
 |jn a k iha ihk=>intro h;simp only [Tr.side,Sd.two.injEq]at h;exact⟨iha h.1,fun z=>ihk z (Sd.o9 h.2 z)⟩
 |jN a k iha ihk=>intro h;simp only [Tr.side,Sd.two.injEq]at h;exact⟨iha h.1,fun z=>ihk z (Sd.o9 h.2 z)⟩
 |lp s0 body k ihb ihk=>intro h;simp only [Tr.side,Sd.two.injEq]at h;exact⟨fun s=>ihb s (Sd.o9 h.1 s),fun z=>ihk z (Sd.o9 h.2 z)⟩
 |sp s0 a body k iha ihb ihk=>intro h;simp only [Tr.side,Sd.two.injEq]at h;exact⟨iha h.1,fun s=>ihb s (Sd.o9 h.2.1 s),fun z=>ihk z (Sd.o9 h.2.2 z)⟩
 |gr l p mb s0 body k ihb ihk=>
  intro h;simp only [Tr.side,Sd.two.injEq]at h;refine⟨fun x s=> ?_,fun z=>ihk z (Sd.o9 h.2 z)⟩;have h1:=Sd.o9 (Sd.o9 h.1 x) s;simp only [Sd.two.injEq]at h1;exact⟨ihb x s h1.1,Sd.Xh h1.2⟩
def YD:Option TV->Option Bool
 |some (.v (.one (.d (.bool b))))=>some b
 |_=>none
theorem Kn {x:Option TV} {b:Bool} (h:YD x=some b):x=some (.v (.one (.d (.bool b)))):=by
 unfold YD at h;split at h;·cases h;rfl
 ·cases h
structure FnI (R:Type) where
 T:List (Nat × TI)
 rs:List ResultVar
 res:R->TV
 hout:R->List (Nat × Option Ob)
def Po.X9:{R:Type}->Po R->Option (FnI R)
 |_, .fn T rs res hout=>some ⟨T,rs,res,hout⟩
 |_,_=>none
theorem Po.TA {R:Type} {po:Po R} {o:FnI R} (h:po.X9=some o):po= .fn o.T o.rs o.res o.hout:=by
 cases po<;>first|(cases h;rfl)|cases h
structure Tt where
 T:Nat
 t1:Nat
 t2:Nat
 t2a:Nat
 t3:Nat
 t3a:Nat
 t4:Nat
 t2b:Nat
 t5:Nat
 t5a:Nat
 t6:Nat
 t5b:Nat
 t7:Nat
def IJ (o:Oper):Option (Nat × Nat × Nat):=match o with
 |⟨some d, .range T (.tmp t),_,_,_,none⟩=>some (T,t,d)
 |_=>none
theorem Lc {o:Oper} {T t d:Nat} (h:IJ o=some (T,t,d)):o.op= .range T (.tmp t)/\o.guard=none/\o.dst=some d:=by
 unfold IJ at h;split at h;·cases h;exact⟨rfl,rfl,rfl⟩
 ·cases h
def LC (o:Oper):Option (Nat × Nat):=match o with
 |⟨some d, .next (.tmp t) false,_,_,_,none⟩=>some (t,d)
 |_=>none
theorem Ol {o:Oper} {t d:Nat} (h:LC o=some (t,d)):o.op= .next (.tmp t) false/\o.guard=none/\o.dst=some d:=by
 unfold LC at h;split at h;·cases h;exact⟨rfl,rfl,rfl⟩
 ·cases h
def Jp (k:Nat) (o:Oper):Option (Nat × Nat):=match o with
 |⟨some d, .extract (.tmp t) k',_,_,_,none⟩=>bif Nat.beq k' k then some (t,d)else none
 |_=>none
theorem Fb {k:Nat} {o:Oper} {t d:Nat} (h:Jp k o=some (t,d)):o.op= .extract (.tmp t) k/\o.guard=none/\o.dst=some d:=by
 unfold Jp at h;split at h
 ·rename_i k' _ _ _;cases hb:Nat.beq k' k with
  |true=>rw [hb]at h;cases h;rw [bv hb];exact⟨rfl,rfl,rfl⟩
  |false=>rw [hb]at h;cases h
 ·cases h
def Si (o:Oper):Option (Nat × Nat):=match o with
 |⟨some d, .entry (.tmp t),_,_,_,none⟩=>some (t,d)
 |_=>none
theorem R4 {o:Oper} {t d:Nat} (h:Si o=some (t,d)):o.op= .entry (.tmp t)/\o.guard=none/\o.dst=some d:=by
 unfold Si at h;split at h;·cases h;exact⟨rfl,rfl,rfl⟩
 ·cases h
def DI (T:List (Nat × TI)) (t:Nat):Bool:=match get T t with
 |some ti=>match ti.d with| .map _ _=>true|_=>false
 |none=>false
def gmI (T:List (Nat × TI)) (ops1 ops2 ops3:Array Oper):Option Tt:=
 match ops1[ops1.size - 1]?,ops2.toList,ops3[0]?,ops3[1]?,ops3[2]? with
 |some o1,[o2,o3],some p0,some p1,some p2=>
  match IJ o1,LC o2,Jp 0 o3,Si p0,Jp 0 p1,Jp 1 p2 with
  |some (T1,t1,t2),some (t2a,t3),some (t3a,t4),some (t2b,t5),some (t5a,t6),some (t5b,t7)=>bif DI T T1 then some ⟨T1,t1,t2,t2a,t3,t3a,t4,t2b,t5,t5a,t6,t5b,t7⟩else none
  |_,_,_,_,_,_=>none
 |_,_,_,_,_=>none
def gmK (N c it X X' t4:Nat) (g:Tt):Bool:=
 Ti N g.t1 g.t2 g.t3 g.t4 g.t5 g.t6 g.t7 && (Nat.beq g.t2a g.t2 && (Nat.beq g.t3a g.t3 && (Nat.beq g.t4 t4 && (Nat.beq g.t2b g.t2 && (Nat.beq g.t5a g.t5 && (Nat.beq g.t5b g.t5 && (Nat.beq X' X && (!(Nat.beq c it) && !(Nat.beq g.t4 g.t5)))))))))
def gmS (b it:Nat) (l:List (Int × List Int)) (K V E:Nat) (g:Tt) (st:St):Option CP:=
 match get st.slots g.t1,get st.heap b,get st.heap it with
 |some tv,some ob,none=>some [(.tv tv, .tv (.v (.one (.mp b)))),(.ob ob, .ob (some (.gm K V E l none)))]
 |_,_,_=>none
def qd (it:Nat) (g:Tt) (st:St):St:=⟨(g.t2,vP it 0)::st.slots,(it,none)::st.heap⟩
def gmF (b it c:Nat) (l:List (Int × List Int)) (K V E:Nat) (g:Tt) (st:St):Option CP:=
 match get st.slots g.t2,get st.slots g.t3,get st.slots g.t5,get st.heap b,get st.heap c with
 |some tv,none,none,some ob,none=>some [(.tv tv, .tv (vP it 0)),(.ob ob, .ob (some (.gm K V E l none)))]
 |_,_,_,_,_=>none
def WZ (b c:Nat) (l:List (Int × List Int)) (K V E:Nat) (g:Tt) (st:St) (x:Int × List Int):St:=
 ⟨(g.t7, .v (.one (.own c false x.2.length)))::(g.t6,vI x.1)::(g.t4,vB true)::st.slots,(b,some (.gm K V E l (some (x.1, .own c false x.2.length))))::(c,some (.arr E 1 x.2.length (zm x.2)))::st.heap⟩
section
variable (q:Bool) (P:Program) (T:List (Nat × TI)) (N:Nat)
def Rl (Γ:List Prop) (outs:List Code) (stt:Nat):Option Nat->List Cs->Option (CP × Exit)
 |none,[]=>some ([(.n stt, .n 0)], .normal)
 |none,c::_=>some ((.p (Nat.beq stt 0=true), .p (csP Γ c))::Yz Γ c, .normal)
 |some k,cs=>match outs[k]? with
  |some o=>bif Ak o then(match cs with
   |[]=>some ([(.n stt, .n (k+2))],zb o)
   |c::_=>some ((.p (Nat.beq stt (k+2)=true), .p (csP Γ c))::Yz Γ c,zb o))else none
  |none=>none
def rfG (st:St) (g:Operand):Option (TV × FuncId × List CV × List CV):=
 match Au st g with
 |some gv=>match Ue gv with|some (f,c1,c2)=>some (gv,f,c1,c2)|none=>none
 |none=>none
def isNone {α:Type}:Option α->Bool
 |none=>true
 |_=>false
def IU (N:Nat) (lb:Nat) (sl:List Nat) (outs:List Code) (w:Option Nat) (jf:Nat) (c:List Cs) (g:Operand) (ps:Array Nat) (assign body:Code) (st:St) (Γ:List Prop) (an:List (Nat × iJ)):Option (CP × Exit × St):=
 match rfG st g with
 |some (_,f,c1,c2)=>
  match get an 0 with
  |some (.call ids res hout)=>
   let hp:=(lb,some (.loop ⟨ps.toList,assign,body,N,outs⟩ 0 (I5 st.slots sl)))::st.heap
   match bJ ids (ids.map (aP hp)),get hout lb with
   |some hin,some (some (.loop r' stt _))=>match Rl Γ outs stt w c with
    |some (ck,e)=>some ((.b (isNone (get st.heap lb)), .b true)::
      (.b (bZ ((c1++CV.yl lb::c2).flatMap CV.bP) ids && bZ (dF (ids.map (aP hp))) ids && fE ids (hout.map (·.1)) ((hout.map (·.1)).map (aP hp))), .b true)::
      (.p (Fn P f ((c1++CV.yl lb::c2).map .one) hin res hout), .p (fact Γ jf))::(.co r'.outs, .co outs)::ck,e,⟨st.slots,(lb,none)::(hout++(ids.map (fun i=>(i,none))++st.heap))⟩)
    |none=>none
   |_,_=>none
  |_=>none
 |none=>none
def tr:{R:Type}->Sc R->List Nat->Foc->St->List Prop->List (Nat × iJ)->Po R->Tr R
 |_, .en r fz rn=>fun L f st _ _ po=>match f with
  | .fin e=>match leaf L fz rn po e r st with|some c=> .ck c (.en r)|none=> .bad 1
  |_=> .bad 2
 |_, .no=>fun _ _ _ _ _ _=> .no
 |_, .rg x cs k=>fun L f st Γ an po=>match f with
  | .at (.region _ ops dr) K=>match TP (vF P) T ops dr N L x an st with
   |some R=>match kK R.yb x.ov Γ R.its (II R.its cs)with
    |some c=> .ck ((.b R.ok, .b true)::(SX R.eq++c)) (tr k L (go FU (.e .normal) K) R.st Γ [] po)
    |none=> .bad 3
   |none=> .bad (4000+WH (vF P) T ops.toList (fun _=>false) (VU x.ov) (sU x an) (K6 x.fr) N (List.range ops.size) (lm st))
  |_=> .bad 5
 |_, .pn pv i0 ks kh x cs k=>fun L f st Γ an po=>match f with
  | .at (.region _ ops dr) K=>match VE (Nu P pv) T ops dr N L i0 ks kh x an st with
   |some R=>match kK R.yb x.ov Γ R.its (II R.its cs)with
    |some c=> .ck ((.b R.ok, .b true)::c) (tr k L (go FU (.e (VI pv)) K) R.st Γ [] po)
    |none=> .bad 36
   |none=> .bad (7000+WH (Nu P pv) T ops.toList (fun _=>false) (VU x.ov) (sU x an) (K6 x.fr) N (List.range ops.size) (lm st))
  |_=> .bad 37
 |_, .bd o q _ an' k=>fun L f st Γ an po=> .bd o fun y=>tr (k y) L f st (q y::Γ) (an' y++an) po
 |_, .pb o q qn _ _ an' an0 k p=>fun L f st Γ an po=> .pb o (fun y=>tr (k y) L f st (q y::Γ) (an' y++an) po) (tr p L f st (qn::Γ) (an0++an) po)
 |_, .as c d l _ k=>fun L f st Γ an po=> .as c d (tr k L f st (l++Γ) an po)
 |_, .it a b=>fun L f st Γ an po=>match f with
  | .at (.cond c x y) K=>match YD (Au st c)with
   |some v=> .it v (tr a L (go FU (.c x) K) st ((v=true)::Γ) an po) (tr b L (go FU (.c y) K) st ((v=false)::Γ) an po)
   |none=> .bad 6
  |_=> .bad 7
 |_, .tf v cs k=>fun L f st Γ an po=>match f with
  | .at (.cond c x y) K=>match YD (Au st c)with
   |some w=> .ck (match cs with|[]=>[(.b w, .b v)]|j::_=>(.p (w=v), .p (csP Γ j))::Yz Γ j) (tr k L (go FU (.c (bif v then x else y)) K) st Γ an po)
   |none=> .bad 8
  |_=> .bad 9
 |_, .fk v a b=>fun L f st Γ an po=> .it v (tr a L f st ((v=true)::Γ) an po) (tr b L f st ((v=false)::Γ) an po)
 |_, .im s k=>fun L f st Γ an po=>match DT (s.act st) (s.want st)with
  |some c=> .ck c (tr k L f (s.nxt st) Γ an po)
  |none=> .bad 10
 |_, .wi j s k=>fun L f st Γ an po=>match DT (s.act st) (s.want st)with
  |some c=> .ck ((.p (fact Γ j), .p s.p)::c) (tr k L f (s.nxt st) Γ an po)
  |none=> .bad 18
 |_, .ul n k=>fun L f st Γ an po=>match f with
  | .at (.loop c) K=>tr k L (go FU (.c c) (.lo c n::K)) st Γ an po
  |_=> .bad 19
 |_, .ss k=>fun L f st Γ an po=>match f with
  | .at (.scope c) K=>tr k L (go FU (.c c) (.sc::K)) st Γ an po
  |_=> .bad 20
 |_, .sp s0 t u a body k=>fun L f st Γ an po=>match f with
  | .at (.scope (.seq x (.seq (.label l) y))) K=>match findLabel x l with
   |none=> .sp s0 (tr a L (go FU (.c x) []) st Γ an (.jN fun _=>t.at st s0)) (fun s=>tr (body s) L (go FU (.c y) []) (t.at st s) Γ [] (.gt l K (t.at st) (u.at st) po)) fun z=>tr (k z) L (go FU (.e .normal) K) (u.at st z) Γ [] po
   |some _=> .bad 21
  |_=> .bad 22
 |_, .rf lb sl outs w jf c k=>fun L f st Γ an po=>match q,f with
  |true, .at (.rangeFunc g ps assign body) K=>match IU P N lb sl outs w jf c g ps assign body st Γ an with
   |some (ck,e,st')=> .ck ck (tr k L (go FU (.e e) K) st' Γ [] po)
   |none=> .bad 23
  |_,_=> .bad 24
 |_, .fz l k=>fun L f st Γ an po=>match NG L l (xR (jY st.slots) []) (xR (jY st.heap) []) (lm st)with
  |some (e,s1)=> .ck (SX e) (tr k L f s1 Γ an po)
  |none=> .bad 11
 |_, .jn d t a k=>fun L f st Γ an po=>match f with
  | .at c K=>match K.drop d with
   | .sq y::K2=> .jn (tr a L (.at c (K.take d)) st Γ an (.jn K2 (t.at st) po)) fun z=>tr (k z) L (go FU (.c y) K2) (t.at st z) Γ [] po
   |_=> .bad 12
  |_=> .bad 13
 |_, .jN d t a k=>fun L f st Γ an po=>match f with
  | .at c K=>match K.drop d with
   | .sq y::K2=> .jN (tr a L (.at c (K.take d)) st Γ an (.jN (t.at st))) fun z=>tr (k z) L (go FU (.c y) K2) (t.at st z) Γ [] po
   |_=> .bad 14
  |_=> .bad 15
 |_, .lp s0 fz rn t u body k=>fun L f st Γ an po=>match f with
  | .at (.loop c) (.bl b::K2)=>match narrow L fz rn (t.at st s0) st with
   |some ck=> .ck ck (.lp s0 (fun s=>tr (body s) L (go FU (.c c) []) (t.at st s) Γ [] (.lp b K2 (t.at st) (u.at st) po)) fun z=>tr (k z) L (go FU (.e .normal) K2) (u.at st z) Γ [] po)
   |none=> .bad 16
  |_=> .bad 17
 |_, .gr b it c K0 V0 E0 l p mb _ x1 cs1 t s0 fz rn body k=>fun L f st Γ an po=>match f with
  | .at (.seq (.region _ ops1 false) (.block X (.loop (.seq (.region _ ops2 false) (.seq (.cond (.tmp t4) .skip (.exit X')) (.block Y (.seq (.region _ ops3 false) bd))))))) K=>match po.X9,gmI T ops1 ops2 ops3 with
   |some o,some g=>match MI (vF P) T ops1 N L (List.range (ops1.size - 1)) x1 an st with
    |some R1=>match kK R1.yb x1.ov Γ R1.its (II R1.its cs1),gmS b it l K0 V0 E0 g R1.st,narrow (it::b::L) fz rn (t.at (qd it g R1.st) s0) (qd it g R1.st)with
     |some c1,some c2,some c3=> .ck ((.b (gmK N c it X X' t4 g), .b true)::(SX R1.eq++(c1++(c2++c3)))) (.gr l p mb s0 (fun x s=>
       match gmF b it c l K0 V0 E0 g (t.at (qd it g R1.st) s),MI (vF P) T ops3 N (it::b::L) ((List.range ops3.size).drop 3) {} [] (WZ b c l K0 V0 E0 g (t.at (qd it g R1.st) s) x)with
       |some c4,some R3=>match kK R3.yb [] [] R3.its (II R3.its [])with
        |some c5=> .ck (c4++(SX R3.eq++c5)) (tr (body x s) (it::b::L) (go FU (.c bd) [.bl Y]) R3.st [oK x.1 l=x.2] [] (.gb L (t.at (qd it g R1.st)) o.T o.rs o.res o.hout))
        |none=> .bad 30
       |_,_=> .bad 31) fun s=>tr (k s) L (go FU (.e .normal) K) ⟨(t4,vB false)::(t.at (qd it g R1.st) s).slots,(t.at (qd it g R1.st) s).heap⟩ Γ [] po)
     |_,_,_=> .bad 32
    |none=> .bad 33
   |_,_=> .bad 34
  |_=> .bad 35
end
section
variable {rd:Option Nat} {q:Bool} {P:Program} {B:Base} {N:Nat} {L:List Nat} {T:List (Nat × TI)}
theorem DU {α:Type} {l:List (Nat × α)}: ∀{ks:List Nat},∀p∈I5 l ks,get l p.1=some p.2
 |[],p,h=>by simp [I5]at h
 |k::ks,p,h=>by
  unfold I5 at h;split at h
  ·rename_i x e;rcases eh.1 h with rfl|h
   ·exact e
   ·exact DU p h
  ·exact DU p h
theorem PZ {Γ:List Prop} (hΓ:All Γ) {outs:List Code} {stt:Nat} {w:Option Nat} {cs:List Cs} {ck:CP} {e:Exit} (h:Rl Γ outs stt w cs=some (ck,e)) (hc:ck.ok):OA outs stt e:=by
 unfold Rl at h;split at h;·cases h;exact .inl ⟨Ck.n.inj hc.1,rfl⟩
 ·cases h;obtain⟨h1,h2⟩:=hc;have:=Ik hΓ h2;rw [<-Ck.p.inj h1]at this;exact .inl ⟨bv this,rfl⟩
 ·rename_i k;split at h
  ·rename_i o e1;cases ho:Ak o with
   |false=>rw [ho]at h;cases h
   |true=>
    rw [ho]at h;simp only [bt]at h;split at h;·cases h;exact .inr ⟨k,o,Ck.n.inj hc.1,e1,ho,rfl⟩
    ·cases h;obtain⟨h1,h2⟩:=hc;have:=Ik hΓ h2;rw [<-Ck.p.inj h1]at this;exact .inr ⟨k,o,bv this,e1,ho,rfl⟩
  ·cases h
theorem NU {lb:Nat} {sl:List Nat} {outs:List Code} {w:Option Nat} {jf:Nat} {c:List Cs} {g:Operand} {ps:Array Nat} {assign body:Code} {st st':St} {Γ:List Prop} {an:List (Nat × iJ)} {ck:CP} {e:Exit} {Q:Exit->St->Prop} (hΓ:All Γ)
  (h:IU P N lb sl outs w jf c g ps assign body st Γ an=some (ck,e,st')) (hc:ck.ok) (hQ:Q e st'):jV none P B N L (.rangeFunc g ps assign body) Q st:=by
 unfold IU at h;split at h
 ·rename_i gv f c1 c2 e0;unfold rfG at e0;split at e0
  ·rename_i gv' hg;split at e0
   ·rename_i f' c1' c2' hf;cases e0;split at h
    ·rename_i ids res hout _;simp only at h;split at h
     ·rename_i hin r' stt sl' h1 h2;split at h
      ·rename_i ck' e' h3;cases h;obtain⟨k1,k2,k3,k4,k5⟩:=hc;have hfn:=oh (j:=jf) hΓ;rw [<-Ck.p.inj k3]at hfn;have hn:get st.heap lb=none:=by
        have:=Ck.b.inj k1;cases hh:get st.heap lb with
        |none=>rfl
        |some x=>rw [hh]at this;cases this
       have hp:ps=ps.toList.toArray:=by simp
       rw [hp];exact Gf lb (I5 st.slots sl) outs ids res hout hg hf hn (fun p hp=>DU p hp) h1 (Ck.b.inj k2) hfn h2 (Ck.co.inj k4) (PZ hΓ h3 k5) hQ
      ·cases h
     ·cases h
    ·cases h
   ·cases e0
  ·cases e0
 ·cases h
theorem vw {Q:Exit->St->Prop} {st:St} (h:Q .ret st): ∀{K:List Kf},post rd P B N L K Q .ret st
 |[]=>h
 | .sq _::K=>vw (K:=K) h
 | .bl _::K=>vw (K:=K) h
 | .lo _ _::K=>vw (K:=K) h
 | .sc::K=> ⟨fun _=>Exit.noConfusion,vw (K:=K) h⟩
theorem MP {ops:Array Oper} {o:Oper} (h:ops[ops.size - 1]? =some o):List.range ops.size=List.range (ops.size - 1)++[ops.size - 1]:=by
 have:0<ops.size:=by
  rcases Nat.eq_zero_or_pos ops.size with h0|h0;·rw [h0]at h;simp [Array.getElem?_eq_none (show ops.size<=0 by omega)]at h
  ·exact h0
 have h1:ops.size=(ops.size - 1)+1:=by omega
 conv=>lhs;rw [h1]
 exact List.range_succ
theorem KO {n:Nat} (h:2<n):List.range n=0::1::2::(List.range n).drop 3:=by
 apply List.ext_getElem?;intro i
 match i with
 |0=>rw [List.getElem?_range (by omega)];rfl
 |1=>rw [List.getElem?_range (by omega)];rfl
 |2=>rw [List.getElem?_range (by omega)];rfl
 |i+3=>simp [ea]
theorem NH (hT:kg P T) {t:Nat} (h:DI T t=true): ∃K V,P.underlying t=some (.map K V):=by
 unfold DI at h;split at h
 ·rename_i ti e;split at h
  ·rename_i K V e2;exact⟨K,V,by rw [(hT.get e).1,e2]⟩
  ·cases h
 ·cases h
theorem XJ {ops1 ops2 ops3:Array Oper} {g:Tt} (h:gmI T ops1 ops2 ops3=some g): ∃o1 o2 o3 p0 p1 p2,ops1[ops1.size - 1]? =some o1/\ops2= #[o2,o3]/\ops3[0]? =some p0/\ops3[1]? =some p1/\ops3[2]? =some p2/\
  (o1.op= .range g.T (.tmp g.t1)/\o1.guard=none/\o1.dst=some g.t2)/\(o2.op= .next (.tmp g.t2a) false/\o2.guard=none/\o2.dst=some g.t3)/\(o3.op= .extract (.tmp g.t3a) 0/\o3.guard=none/\o3.dst=some g.t4)/\
  (p0.op= .entry (.tmp g.t2b)/\p0.guard=none/\p0.dst=some g.t5)/\((p1.op= .extract (.tmp g.t5a) 0/\p1.guard=none/\p1.dst=some g.t6)/\(p2.op= .extract (.tmp g.t5b) 1/\p2.guard=none/\p2.dst=some g.t7))/\DI T g.T=true:=by
 unfold gmI at h;split at h
 ·rename_i o1 o2 o3 p0 p1 p2 h1 h2 h3 h4 h5;split at h
  ·rename_i a1 a2 a3 a4 a5 a6 a7 a8 a9 a10 a11 a12 a13 q1 q2 q3 q4 q5 q6;cases hm:DI T a1 with
   |false=>rw [hm]at h;cases h
   |true=>
    rw [hm]at h;cases h;exact⟨o1,o2,o3,p0,p1,p2,h1,by rw [<-Array.toArray_toList (xs:=ops2),h2],h3,h4,h5,Lc q1,Ol q2,Fb q3,R4 q4,⟨Fb q5,Fb q6⟩,hm⟩
  ·cases h
 ·cases h
theorem Wn {b it:Nat} {l:List (Int × List Int)} {K V E:Nat} {g:Tt} {st:St} {c:CP} (h:gmS b it l K V E g st=some c) (hc:c.ok):get st.slots g.t1=some (.v (.one (.mp b)))/\get st.heap b=some (some (.gm K V E l none))/\get st.heap it=none:=by
 unfold gmS at h;split at h
 ·rename_i tv ob h1 h2 h3;cases h;obtain⟨c1,c2,_⟩:=hc;rw [h1,h2,h3];exact⟨congrArg some (Ck.tv.inj c1),congrArg some (Ck.ob.inj c2),rfl⟩
 ·cases h
theorem Yh {b it cc:Nat} {l:List (Int × List Int)} {K V E:Nat} {g:Tt} {st:St} {c:CP} (h:gmF b it cc l K V E g st=some c) (hc:c.ok):get st.slots g.t2=some (vP it 0)/\get st.slots g.t3=none/\get st.slots g.t5=none/\get st.heap b=some (some (.gm K V E l none))/\get st.heap cc=none:=by
 unfold gmF at h;split at h
 ·rename_i tv ob h1 h2 h3 h4 h5;cases h;obtain⟨c1,c2,_⟩:=hc;rw [h1,h2,h3,h4,h5];exact⟨congrArg some (Ck.tv.inj c1),rfl,rfl,congrArg some (Ck.ob.inj c2),rfl⟩
 ·cases h
theorem Cn (hrd:q=true->rd=none) (hT:kg P T) (hm:P.follows .mixedOrders=true): ∀{R:Type} (s:Sc R) {B:Base} {L:List Nat} {f:Foc} {st:St} {Γ:List Prop} {an:List (Nat × iJ)} {po:Po R} {r:R},
  (tr q P T N s L f st Γ an po).ok->All Γ->(tr q P T N s L f st Γ an po).den=some r->Zv rd P B N L f (po.Q rd P B N L r) st:=by
 intro R s;induction s with
 |en r fz rn=>
  intro B L f st Γ an po r' hk hΓ hd;unfold tr at hk hd;cases f with
  |fin e=>
   simp only at hk hd;cases hl:leaf L fz rn po e r st with
   |none=>rw [hl]at hk;exact hk.elim
   |some c=>
    rw [hl]at hk hd;cases hd;exact Vj hl hk.1
  | «at» c K=>exact hk.elim
  |bad=>exact hk.elim
 |no=>intro B L f st Γ an po r' hk hΓ hd;cases hd
 |rg x cs k ih=>
  intro B L f st Γ an po r' hk hΓ hd;unfold tr at hk hd;cases f with
  |fin e=>exact hk.elim
  |bad=>exact hk.elim
  | «at» c K=>
   cases c with
   |region id ops dr=>
    simp only at hk hd;cases hR:TP (vF P) T ops dr N L x an st with
    |none=>rw [hR]at hk;exact hk.elim
    |some R=>
     rw [hR]at hk hd;simp only at hk hd;cases hc:kK R.yb x.ov Γ R.its (II R.its cs)with
     |none=>rw [hc]at hk;exact hk.elim
     |some c=>
      rw [hc]at hk hd;simp only at hk hd;obtain⟨⟨h1,h2⟩,hk⟩:=hk;rw [CP.eP]at h2;refine QN hT hm hR (Ck.b.inj h1) (rZ h2.1) (uZ hΓ hc h2.2) ?_;exact go_ok (n:=FU) (x:= .e .normal) (ih (B:=B) hk hΓ hd)
   |_=>exact hk.elim
 |pn pv i0 ks kh x cs k ih=>
  intro B L f st Γ an po r' hk hΓ hd;unfold tr at hk hd;cases f with
  |fin e=>exact hk.elim
  |bad=>exact hk.elim
  | «at» c K=>
   cases c with
   |region id ops dr=>
    simp only at hk hd;cases hR:VE (Nu P pv) T ops dr N L i0 ks kh x an st with
    |none=>rw [hR]at hk;exact hk.elim
    |some R=>
     rw [hR]at hk hd;simp only at hk hd;cases hc:kK R.yb x.ov Γ R.its (II R.its cs)with
     |none=>rw [hc]at hk;exact hk.elim
     |some c=>
      rw [hc]at hk hd;simp only at hk hd;obtain⟨⟨h1,h2⟩,hk⟩:=hk;refine Sw hT hm hR (Ck.b.inj h1) (uZ hΓ hc h2) ?_;exact go_ok (n:=FU) (x:= .e (VI pv)) (ih (B:=B) hk hΓ hd)
   |_=>exact hk.elim
 |bd o q h an' k ih=>
  intro B L f st Γ an po r' hk hΓ hd;unfold tr at hk hd;cases o with
  |none=>cases hd
  |some y=>exact ih y (hk y) ⟨h y rfl,hΓ⟩ hd
 |pb o q qn h hn an' an0 k p ih ihp=>
  intro B L f st Γ an po r' hk hΓ hd;unfold tr at hk hd;rcases LA hd with⟨y,ho,hd⟩|⟨ho,hd⟩;·exact ih y (hk.1 y) ⟨h y ho,hΓ⟩ hd
  ·exact ihp hk.2 ⟨hn ho,hΓ⟩ hd
 |as c d l hl k ih=>
  intro B L f st Γ an po r' hk hΓ hd;unfold tr at hk hd;exact R6 (c:=c) hd fun hc hd=>ih hk (aW.2 ⟨hl hc,hΓ⟩) hd
 |it a b iha ihb=>
  intro B L f st Γ an po r' hk hΓ hd;unfold tr at hk hd;cases f with
  |fin e=>exact hk.elim
  |bad=>exact hk.elim
  | «at» c K=>
   cases c with
   |cond c x y=>
    simp only at hk hd;cases hv:YD (Au st c)with
    |none=>rw [hv]at hk;exact hk.elim
    |some v=>
     rw [hv]at hk hd;simp only at hk hd;refine uW v (Kn hv) (fun e=> ?_) fun e=> ?_
     ·refine go_ok (n:=FU) (x:= .c x) (iha hk.1 ⟨e,hΓ⟩ ?_);have hd':(bif v then _ else _)=some r':=hd;rw [e]at hd';subst e;exact hd'
     ·refine go_ok (n:=FU) (x:= .c y) (ihb hk.2 ⟨e,hΓ⟩ ?_);have hd':(bif v then _ else _)=some r':=hd;rw [e]at hd';subst e;exact hd'
   |_=>exact hk.elim
 |tf v cs k ih=>
  intro B L f st Γ an po r' hk hΓ hd;unfold tr at hk hd;cases f with
  |fin e=>exact hk.elim
  |bad=>exact hk.elim
  | «at» c K=>
   cases c with
   |cond c x y=>
    simp only at hk hd;cases hv:YD (Au st c)with
    |none=>rw [hv]at hk;exact hk.elim
    |some w=>
     rw [hv]at hk hd;simp only at hk hd;have hw:w=v:=by
      cases cs with
      |nil=>exact Ck.b.inj hk.1.1
      |cons j _=>
       obtain⟨h1,h2⟩:=hk.1;have:=Ik hΓ h2;exact Ck.p.inj h1 ▸ this
     subst hw;have:=go_ok (n:=FU) (x:= .c _) (ih (B:=B) hk.2 hΓ hd);refine uW w (Kn hv) (fun e=> ?_) fun e=> ?_;·subst e;exact this
     ·subst e;exact this
   |_=>exact hk.elim
 |fk v a b iha ihb=>
  intro B L f st Γ an po r' hk hΓ hd;unfold tr at hk hd;have hd':(bif v then _ else _)=some r':=hd;cases v with
  |true=>exact iha hk.1 ⟨rfl,hΓ⟩ hd'
  |false=>exact ihb hk.2 ⟨rfl,hΓ⟩ hd'
 |im s k ih=>
  intro B L f st Γ an po r' hk hΓ hd;unfold tr at hk hd;cases hz:DT (s.act st) (s.want st)with
  |none=>rw [hz]at hk;exact hk.elim
  |some c=>
   rw [hz]at hk hd;have hi:=s.ok B N L st (Dk hz hk.1);have:=ih (B:=B) hk.2 hΓ hd;cases f with
   | «at» c K=>exact sN hi this
   |fin e=>exact QI.imp hi this
   |bad=>exact this
 |wi j s k ih=>
  intro B L f st Γ an po r' hk hΓ hd;unfold tr at hk hd;cases hz:DT (s.act st) (s.want st)with
  |none=>rw [hz]at hk;exact hk.elim
  |some c=>
   rw [hz]at hk hd;have hp:s.p:=Ck.p.inj hk.1.1 ▸ oh hΓ;have hi:=s.ok hp B N L st (Dk hz hk.1.2);have:=ih (B:=B) hk.2 hΓ hd;cases f with
   | «at» c K=>exact sN hi this
   |fin e=>exact QI.imp hi this
   |bad=>exact this
 |ul n k ih=>
  intro B L f st Γ an po r' hk hΓ hd;unfold tr at hk hd;cases f with
  |fin e=>exact hk.elim
  |bad=>exact hk.elim
  | «at» c K=>
   cases c with
   |loop c=>
    have:=go_ok (n:=FU) (x:= .c c) (K:= .lo c n::K) (ih (B:=B) hk hΓ hd);exact Pw (n+1) this
   |_=>exact hk.elim
 |ss k ih=>
  intro B L f st Γ an po r' hk hΓ hd;unfold tr at hk hd;cases f with
  |fin e=>exact hk.elim
  |bad=>exact hk.elim
  | «at» c K=>
   cases c with
   |scope c=>
    have:=go_ok (n:=FU) (x:= .c c) (K:= .sc::K) (ih (B:=B) hk hΓ hd);exact LQ this
   |_=>exact hk.elim
 |sp s0 t u a body k iha ihb ihk=>
  intro B L f st Γ an po r' hk hΓ hd;unfold tr at hk hd;split at hk
  ·rename_i x l y K;simp only at hd;split at hk
   ·rename_i hfl;rw [hfl]at hd;simp only at hd;obtain⟨hka,hkb,hkk⟩:=hk;unfold Tr.den at hd;rw [Option.bind_eq_some_iff]at hd;obtain⟨un,ha,hd⟩:=hd;rw [Option.bind_eq_some_iff]at hd;obtain⟨o,ho,hd⟩:=hd;have h1:=go_ok (n:=FU) (x:= .c x) (K:=[]) (iha (B:=B) hka hΓ ha);have hc:jV rd P B N L (.scope (.seq x (.seq (.label l) y))) (fun e st1=>QI B N L ((Po.gt l K (t.at st) (u.at st) po).Q rd P B N L (.done o)) e st1) st:=by
     have hb: ∀s f,(tr q P T N (body s) L (go FU (.c y) []) (t.at st s) Γ [] (.gt l K (t.at st) (u.at st) po)).den=some f->jV rd P B N L y (GQ l (t.at st) (fun r e st1=>QI B N L ((Po.gt l K (t.at st) (u.at st) po).Q rd P B N L (.done r)) e st1) f) (t.at st s):=fun s fl hs=>by
      refine jC (eH (go_ok (n:=FU) (x:= .c y) (K:=[]) (ihb s (hkb s) hΓ hs)) fun e st1 hq=> ?_);obtain⟨s',hi,hq⟩:=hq;refine⟨s',hi, ?_⟩;cases fl with
      |next s2=>exact hq
      |done r=>
       refine⟨?_,s', .refl,hq⟩;cases r with
       |brk z=>obtain⟨rfl,_⟩:=hq;exact fun _=>Exit.noConfusion
       |ret x=>exact hq.1
     refine Mq (rest:= .seq .skip y) l (by simp [findLabel,hfl]) (t.at st) (fun(r:Ex _ _) e st1=>QI B N L ((Po.gt l K (t.at st) (u.at st) po).Q rd P B N L (.done r)) e st1) ho (fun s fl hs=>tH (Jv (hb s fl hs))) fun fl hs=> ?_;refine Sm _ h1 fun e st' hh=> ?_;obtain⟨s',hi,hq⟩:=hh;obtain⟨rfl,rfl⟩:=hq;exact sN hi (tH (Gi (hb s0 fl hs)))
    refine eH hc fun e st1 hq=> ?_;obtain⟨s',hi,hq⟩:=hq;refine kL hi ?_;cases o with
    |brk z=>
     obtain⟨rfl,rfl⟩:=hq;exact go_ok (n:=FU) (x:= .e .normal) (ihk z (hkk z) hΓ hd)
    |ret x=>
     cases hd;exact hq.2.2
   ·exact hk.elim
  ·exact hk.elim
 |rf lb sl outs w jf c k ih=>
  intro B L f st Γ an po r' hk hΓ hd;unfold tr at hk hd;split at hk
  ·rename_i g ps assign body K;simp only at hd;cases hs:IU P N lb sl outs w jf c g ps assign body st Γ an with
   |none=>rw [hs]at hk;exact hk.elim
   |some x=>
    obtain⟨ck,e,st'⟩:=x;rw [hs]at hk hd;obtain rfl:=hrd rfl;exact NU hΓ hs hk.1 (go_ok (n:=FU) (x:= .e e) (ih (B:=B) hk.2 hΓ hd))
  ·exact hk.elim
 |fz l k ih=>
  intro B L f st Γ an po r' hk hΓ hd;unfold tr at hk hd;cases hz:NG L l (xR (jY st.slots) []) (xR (jY st.heap) []) (lm st)with
  |none=>rw [hz]at hk;exact hk.elim
  |some c=>
   obtain⟨e,s1⟩:=c;rw [hz]at hk hd;obtain⟨ren,hz⟩:=BB hz;obtain⟨ts,cs',hf,hcs⟩:=mR hz (rZ hk.1) [] trivial;have hi:jl B N L st s1:=jl.fin _ ts hf hcs;have:=ih (B:=B) hk.2 hΓ hd;cases f with
   | «at» c K=>exact sN hi this
   |fin e=>exact QI.imp hi this
   |bad=>exact this
 |jn d t a k iha ihk=>
  intro B L f st Γ an po r' hk hΓ hd;unfold tr at hk hd;cases f with
  |fin e=>exact hk.elim
  |bad=>exact hk.elim
  | «at» c K=>
   simp only at hk hd;cases hK:K.drop d with
   |nil=>rw [hK]at hk;exact hk.elim
   |cons x K2=>
    cases x with
    |bl i=>rw [hK]at hk;exact hk.elim
    |lo _ _=>rw [hK]at hk;exact hk.elim
    |sc=>rw [hK]at hk;exact hk.elim
    |sq y=>
     rw [hK]at hk hd;simp only at hk hd;have hKe:K=K.take d++(.sq y::K2):=by rw [<-hK];exact(ei d K).symm
     unfold Tr.den at hd;rw [Option.bind_eq_some_iff]at hd;obtain⟨o,ho,hd⟩:=hd;have h1:=iha (B:=B) hk.1 hΓ ho;show jV rd P B N L c (post rd P B N L K (QI B N L (po.Q rd P B N L r'))) st;rw [hKe];refine eH h1 fun e st1 hq=>kJ (K2:= .sq y::K2) (fun e st1 hq=> ?_) hq;obtain⟨s',hi,hq⟩:=hq;refine kL (K:= .sq y::K2) hi ?_;cases o with
     |brk z=>
      obtain⟨rfl,rfl⟩:=hq;exact go_ok (n:=FU) (x:= .c y) (ihk z (hk.2 z) hΓ hd)
     |ret v=>
      cases hd;obtain⟨hne,hq⟩:=hq;cases e with
      |normal=>exact absurd rfl hne
      |_=>exact hq
 |jN d t a k iha ihk=>
  intro B L f st Γ an po r' hk hΓ hd;unfold tr at hk hd;cases f with
  |fin e=>exact hk.elim
  |bad=>exact hk.elim
  | «at» c K=>
   simp only at hk hd;cases hK:K.drop d with
   |nil=>rw [hK]at hk;exact hk.elim
   |cons x K2=>
    cases x with
    |bl i=>rw [hK]at hk;exact hk.elim
    |lo _ _=>rw [hK]at hk;exact hk.elim
    |sc=>rw [hK]at hk;exact hk.elim
    |sq y=>
     rw [hK]at hk hd;simp only at hk hd;have hKe:K=K.take d++(.sq y::K2):=by rw [<-hK];exact(ei d K).symm
     obtain⟨z,ho,hd⟩: ∃o,(tr q P T N a L (.at c (K.take d)) st Γ an (.jN (t.at st))).den=some o/\(tr q P T N (k o) L (go FU (.c y) K2) (t.at st o) Γ [] po).den=some r':=by
      have hd':Option.bind _ _=some r':=hd;rw [Option.bind_eq_some_iff]at hd';exact hd'
     have h1:=iha (B:=B) hk.1 hΓ ho;show jV rd P B N L c (post rd P B N L K (QI B N L (po.Q rd P B N L r'))) st;rw [hKe];refine eH h1 fun e st1 hq=>kJ (K2:= .sq y::K2) (fun e st1 hq=> ?_) hq;obtain⟨s',hi,hq⟩:=hq;refine kL (K:= .sq y::K2) hi ?_;obtain⟨rfl,rfl⟩:=hq;exact go_ok (n:=FU) (x:= .c y) (ihk z (hk.2 z) hΓ hd)
 |lp s0 fz rn t u body k ihb ihk=>
  intro B L f st Γ an po r' hk hΓ hd;unfold tr at hk hd;cases f with
  |fin e=>exact hk.elim
  |bad=>exact hk.elim
  | «at» c K=>
   cases c with
   |loop c=>
    cases K with
    |nil=>exact hk.elim
    |cons x K2=>
     cases x with
     |sq y=>exact hk.elim
     |lo _ _=>exact hk.elim
     |sc=>exact hk.elim
     |bl b=>
      simp only at hk hd;cases hn:narrow L fz rn (t.at st s0) st with
      |none=>rw [hn]at hk;exact hk.elim
      |some ck=>
       rw [hn]at hk hd;simp only at hk hd;obtain⟨hk0,hkb,hkk⟩:=hk;unfold Tr.den Tr.den at hd;rw [Option.bind_eq_some_iff]at hd;obtain⟨o,ho,hd⟩:=hd;refine sN (iP hn hk0) ?_;refine eH (Pd (t.at st) (fun(r:Ex _ _) e st1=>QI B N L ((Po.lp b K2 (t.at st) (u.at st) po).Q rd P B N L (.done r)) e st1) ho fun s fl hs=> ?_) fun e st1 hq=> ?_
       ·refine jC (eH (go_ok (n:=FU) (x:= .c c) (K:=[]) (ihb s (hkb s) hΓ hs)) fun e st1 hq=> ?_);obtain⟨s',hi,hq⟩:=hq;refine⟨s',hi, ?_⟩;cases fl with
        |next s2=>exact hq
        |done r=>
         refine⟨?_,s', .refl,hq⟩;cases r with
         |brk z=>obtain⟨rfl,_⟩:=hq;exact Exit.noConfusion
         |ret x=>exact hq.1
       ·obtain⟨s',hi,hq⟩:=hq;refine kL (K:= .bl b::K2) hi ?_;cases o with
        |brk z=>
         obtain⟨rfl,rfl⟩:=hq;show(bif Nat.beq b b then _ else _);rw [Nat.beq_refl];exact go_ok (n:=FU) (x:= .e .normal) (ihk z (hkk z) hΓ hd)
        |ret x=>
         cases hd;obtain⟨h1,h2,hq⟩:=hq;cases e with
         |normal=>exact absurd rfl h1
         |exit i=>
          show(bif Nat.beq i b then _ else _);rw [l9 (fun e=>h2 (by rw [e]))];exact hq
         |goto l=>exact hq
         |ret=>exact hq
         |panic v=>exact hq
         |outgrown=>exact hq
   |_=>exact hk.elim
 |gr b it c K0 V0 E0 l p mb hno x1 cs1 t s0 fz rn body k ihb ihk=>
  intro B L f st Γ an po r' hk hΓ hd;unfold tr at hk hd;split at hk
  ·rename_i id1 ops1 X id2 ops2 t4 X' Y id3 ops3 bd K;simp only at hd;cases ho:po.X9 with
   |none=>rw [ho]at hk;exact hk.elim
   |some o=>
   cases hg:gmI T ops1 ops2 ops3 with
   |none=>rw [ho,hg]at hk;exact hk.elim
   |some g=>
   rw [ho,hg]at hk hd;simp only at hk hd;cases hR:MI (vF P) T ops1 N L (List.range (ops1.size - 1)) x1 an st with
   |none=>rw [hR]at hk;exact hk.elim
   |some R1=>
   rw [hR]at hk hd;simp only at hk hd;cases h1:kK R1.yb x1.ov Γ R1.its (II R1.its cs1)with
   |none=>rw [h1]at hk;exact hk.elim
   |some c1=>
   cases h2:gmS b it l K0 V0 E0 g R1.st with
   |none=>rw [h1,h2]at hk;exact hk.elim
   |some c2=>
   cases h3:narrow (it::b::L) fz rn (t.at (qd it g R1.st) s0) (qd it g R1.st)with
   |none=>rw [h1,h2,h3]at hk;exact hk.elim
   |some c3=>
   rw [h1,h2,h3]at hk hd;simp only at hk hd;obtain⟨⟨hk0,hkc⟩,hkb,hkk⟩:=hk;rw [CP.eP,CP.eP,CP.eP]at hkc;obtain⟨hkr,hkc1,hkc2,hkc3⟩:=hkc;obtain⟨y1,cs1',hreg1,hcs1⟩:=Nz hR (rZ hkr) (uZ hΓ h1 hkc1);have hgo:=XJ hg;obtain⟨o1,o2,o3,p0,p1,p2,e1,e2,e3,e4,e5,e6,e7,e8,e9,e10,e11⟩:=hgo;have hgk:=Ck.b.inj hk0;simp only [gmK,cd,c_]at hgk;obtain⟨hmr,q1,q2,q3,q4,q5,q6,q7,q8,q9⟩:=hgk;have q1:=bv q1;have q2:=bv q2;have q3:=bv q3;have q4:=bv q4;have q5:=bv q5;have q6:=bv q6;have q7:=bv q7;subst q3 q7 e2;have n1:c≠it:=fun e=>by rw [e,Nat.beq_refl]at q8;cases q8
   have n2:g.t4≠g.t5:=fun e=>by rw [e,Nat.beq_refl]at q9;cases q9
   obtain⟨m1,m2,m3⟩:=Wn h2 hkc2;unfold Tr.den Tr.den at hd;rw [Option.bind_eq_some_iff]at hd;obtain⟨ob,hgo,hd⟩:=hd;obtain⟨u1,u3,u2⟩:=NH hT e11;have hf: ∀s,get (t.at (qd it g R1.st) s).slots g.t2=some (vP it 0)/\get (t.at (qd it g R1.st) s).slots g.t3=none/\get (t.at (qd it g R1.st) s).slots g.t5=none/\get (t.at (qd it g R1.st) s).heap b=some (some (.gm K0 V0 E0 l none))/\get (t.at (qd it g R1.st) s).heap c=none:=by
    intro s;have h:=(hkb default s).1;dsimp only at h;cases hq:gmF b it c l K0 V0 E0 g (t.at (qd it g R1.st) s)with
    |none=>rw [hq]at h;exact h.elim
    |some c4=>
     rw [hq]at h;cases hq3:MI (vF P) T ops3 N (it::b::L) ((List.range ops3.size).drop 3) {} [] (WZ b c l K0 V0 E0 g (t.at (qd it g R1.st) s) default)with
     |none=>rw [hq3]at h;exact h.elim
     |some R3=>
      rw [hq3]at h;simp only at h;cases hq5:kK R3.yb [] [] R3.its (II R3.its [])with
      |none=>rw [hq5]at h;exact h.elim
      |some c5=>
       rw [hq5]at h;simp only at h;have h':=h.1;rw [CP.eP]at h';exact Yh hq h'.1
   have hpo:=Po.TA ho;show jV rd P B N L (.seq (.region _ ops1 false) _) (post rd P B N L K (QI B N L (po.Q rd P B N L r'))) st;subst hpo;refine eH (KC (σ:=_) (ρ':=_) (fun s=>t.at (qd it g R1.st) s) R1.st (ops1:=ops1) (pre:=List.range (ops1.size - 1)) (n1:=ops1.size - 1) (MP e1) (fun Q l2 hq=>abS hT R1.st y1 hreg1 hcs1 hq)
    (s0:=s0) (r:=ob) (l:=l) (K:=K0) (V:=V0) (E:=E0) b it c p (fun x s=>(mb x s).map Qb) hgo (fun x hx s=>by rw [hno x hx s];rfl)
    (t1:=g.t1) (t2:=g.t2) (t3:=g.t3) (t4:=g.t4) (t5:=g.t5) (t6:=g.t6) (t7:=g.t7) (X:=X') (Y:=Y) (T:=g.T) (K0:=u1) (V0:=u3) (o1:=o1) (o2:=o2) (o3:=o3) (p0:=p0) (p1:=p1) (p2:=p2) (ops:=ops3) ((List.range ops3.size).drop 3)
    (BODY:=bd) (Q:=fun e st'=>match ob with| .brk s=>e= .normal/\st'=⟨(g.t4,vB false)::(t.at (qd it g R1.st) s).slots,(t.at (qd it g R1.st) s).heap⟩| .ret x=>e= .ret/\ ∃s',jl B N L st' s'/\Ep o.T o.rs (o.res x) (o.hout x) .ret s')
    m1 m2 m3 n1 (fun B'=>iP h3 hkc3) hf (fun B' x s fl hx0 hfl=> ?_) (fun s hs=> ?_) ?_ ?_ hmr n2) fun e st' hq=> ?_
   rotate_right
   ·cases ob with
    |brk s=>
     obtain⟨rfl,rfl⟩:=hq;exact go_ok (n:=FU) (x:= .e .normal) (ihk s (hkk s) hΓ hd)
    |ret x=>
     cases hd;obtain⟨rfl,s',hi,hq⟩:=hq;exact vw ⟨s',hi,hq⟩
   ·obtain⟨hbo,hbd⟩:=hkb x s;dsimp only at hbo hbd;cases h4:gmF b it c l K0 V0 E0 g (t.at (qd it g R1.st) s)with
    |none=>rw [h4]at hbo;exact hbo.elim
    |some c4=>
    cases h5:MI (vF P) T ops3 N (it::b::L) ((List.range ops3.size).drop 3) {} [] (WZ b c l K0 V0 E0 g (t.at (qd it g R1.st) s) x)with
    |none=>rw [h4,h5]at hbo;exact hbo.elim
    |some R3=>
    rw [h4,h5]at hbo hbd;simp only at hbo hbd;cases h6:kK R3.yb [] [] R3.its (II R3.its [])with
    |none=>rw [h6]at hbo;exact hbo.elim
    |some c5=>
    rw [h6]at hbo hbd;simp only at hbo hbd;obtain⟨hb1,hb2⟩:=hbo;rw [CP.eP,CP.eP]at hb1;obtain⟨y3,cs3',hreg3,hcs3⟩:=Nz h5 (rZ hb1.2.1) (uZ (Γ:=[]) trivial h6 hb1.2.2);cases hmb:mb x s with
    |none=>rw [hmb]at hfl;cases hfl
    |some fl0=>
    rw [hmb]at hfl hbd;have hw:=ihb x s (B:=B') hb2 ⟨hx0,trivial⟩ hbd;have hw:=go_ok (n:=FU) (x:= .c bd) (K:=[.bl Y]) hw;refine rwp hT R3.st y3 hreg3 hcs3 .refl (jC (eH hw fun e st1 hq=> ?_));have hfl:Qb fl0=fl:=Option.some.inj hfl;subst hfl;have key: ∃e',(e'=e\/(e= .exit Y/\e'= .normal))/\QI B' N (it::b::L) ((Po.gb L (t.at (qd it g R1.st)) o.T o.rs o.res o.hout).Q rd P B' N (it::b::L) fl0) e' st1:=by
     cases e with
     |exit i=>
      have hq:(bif Nat.beq i Y then _ else _):=hq;cases hb:Nat.beq i Y with
      |true=>rw [hb]at hq;exact⟨_, .inr ⟨by rw [bv hb],rfl⟩,hq⟩
      |false=>rw [hb]at hq;exact⟨_, .inl rfl,hq⟩
     |_=>exact⟨_, .inl rfl,hq⟩
    obtain⟨e',he,s',hi,hq⟩:=key;refine⟨s',hi, ?_⟩;cases fl0 with
    |next s2=>
     obtain⟨rfl,rfl⟩:=hq;exact⟨by rcases he with h|h;exact .inl h.symm;exact .inr h.1,rfl⟩
    |done r0=>
     cases r0 with
     |brk z=>exact z.elim
     |ret v=>
      obtain⟨rfl,hqr⟩:=hq;rcases he with h|h
      ·subst h;refine⟨⟨Exit.noConfusion,Exit.noConfusion,Exit.noConfusion⟩,fun hr=> ?_⟩;subst hr;exact⟨rfl,hqr B⟩
      ·cases h.2
   ·subst hs;exact⟨rfl,rfl⟩
   ·exact u2
   ·exact⟨⟨e1,e6.1,e6.2.1,e6.2.2⟩,⟨by rw [e7.1,q1],e7.2.1,e7.2.2⟩,⟨by rw [e8.1,q2],e8.2.1,e8.2.2⟩,⟨by rw [e9.1,q4],e9.2.1,e9.2.2⟩,⟨by rw [e10.1.1,q5],e10.1.2.1,e10.1.2.2⟩,⟨by rw [e10.2.1,q6],e10.2.2.1,e10.2.2.2⟩,KO (by rcases Nat.lt_or_ge 2 ops3.size with h|h;exact h;rw [Array.getElem?_eq_none h]at e5;cases e5),e3,e4,e5⟩
  ·exact hk.elim
end
structure gK (P:Program) (f:Nat) (args:List SV) (hin:List (Nat × Option Ob)) {R:Type} (res:R->TV) (hout:R->List (Nat × Option Ob)) (o:Option R):Prop where
 run: ∀{r:R},o=some r->Fn P f args hin (res r) (hout r)
instance {P:Program} {f:Nat} {args:List SV} {hin:List (Nat × Option Ob)} {R:Type} {res:R->TV} {hout:R->List (Nat × Option Ob)} {o:Option R}:CoeFun (gK P f args hin res hout o) (fun _=> ∀{r:R},o=some r->Fn P f args hin (res r) (hout r)):=⟨fun h=>h.run⟩
section
variable {P:Program} {T:List (Nat × TI)}
theorem iU (hT:kg P T) (hm:P.follows .mixedOrders=true) {f:Nat} {fn:Func} {args:List SV} {hin:List (Nat × Option Ob)} {R:Type} {res:R->TV} {hout:R->List (Nat × Option Ob)} {o:Option R} (hf:P.funcs[f]? =some fn) (s:Sc R)
  (hb:fn.body=some (jX fn):=by kernel_rfl) (hn:(fn.name== "runtime.NumGoroutine")=false:=by kernel_rfl)
  (hs:(tr true P T (args.length+(fn.ntmps - args.length)) s (hin.map (·.1)) (go FU (.c (jX fn)) []) ⟨slotsOf 0 args,hin⟩ [] [] (.fn T fn.results.toList res hout)).side true=(tr true P T (args.length+(fn.ntmps - args.length)) s (hin.map (·.1)) (go FU (.c (jX fn)) []) ⟨slotsOf 0 args,hin⟩ [] [] (.fn T fn.results.toList res hout)).side false:=by kernel_rfl)
  (hd:(tr true P T (args.length+(fn.ntmps - args.length)) s (hin.map (·.1)) (go FU (.c (jX fn)) []) ⟨slotsOf 0 args,hin⟩ [] [] (.fn T fn.results.toList res hout)).den=o:=by kernel_rfl):gK P f args hin res hout o:=by
 refine⟨fun{r} hr=> ?_⟩;refine KU hT hf hb hn fun B=> ?_;have h:=go_ok (n:=FU) (x:= .c (jX fn)) (K:=[]) (Cn (rd:=none) (q:=true) (B:=B) (fun _=>rfl) hT hm s (Tr.lU hs) trivial (hd.trans hr));refine jC (eH h fun e st hq=> ?_);exact hq
theorem Qg: ∀{l:CP},l.map (·.1)=l.map (·.2)->l.ok
 |[],_=>trivial
 |e::l,h=>by
  simp only [cL,List.cons.injEq]at h;exact⟨h.1,Qg h.2⟩
theorem rQ {f:Nat} {args:List SV} {hin:List (Nat × Option Ob)} {R:Type} {res:R->TV} {hout:R->List (Nat × Option Ob)} {o:Option R} (l:List (Nat × Nat)) (h:gK P f args hin res hout o):
  gK P f (args.map (SV.ren (swp l))) (qb (swp l) hin) (fun r=>(res r).ren (swp l)) (fun r=>qb (swp l) (hout r)) o:=⟨fun hr=>Fn.Ma l (h hr) rfl rfl rfl rfl⟩
theorem MK {f:Nat} {args:List SV} {hin:List (Nat × Option Ob)} {R:Type} {res:R->TV} {hout:R->List (Nat × Option Ob)} {o:Option R} (args':List SV) (h:gK P f args hin res hout o) (h1:(uX args args').1.map (·.1)=(uX args args').1.map (·.2):=by kernel_rfl) (h2:(uX args args').2=args:=by kernel_rfl):
  gK P f args' hin res hout o:=⟨fun hr=>Fn.le (h hr) (by have:=Ey (Qg h1);rwa [h2]at this)⟩
structure Yy (P:Program) (b:Nat) (args:List SV) (hin:List (Nat × Option Ob)) {R:Type} (res:R->TV) (hout:R->List (Nat × Option Ob)) (o:Option R):Prop where
 run: ∀{r:R},o=some r->Yl P b args hin (res r) (hout r)
instance {b:Nat} {args:List SV} {hin:List (Nat × Option Ob)} {R:Type} {res:R->TV} {hout:R->List (Nat × Option Ob)} {o:Option R}:CoeFun (Yy P b args hin res hout o) (fun _=> ∀{r:R},o=some r->Yl P b args hin (res r) (hout r)):=⟨fun h=>h.run⟩
theorem rkY {b:Nat} {args:List SV} {hin:List (Nat × Option Ob)} {R:Type} {res:R->TV} {hout:R->List (Nat × Option Ob)} {o:Option R} (l:List (Nat × Nat)) (h:Yy P b args hin res hout o):
  Yy P (swp l b) (args.map (SV.ren (swp l))) (qb (swp l) hin) (fun r=>(res r).ren (swp l)) (fun r=>qb (swp l) (hout r)) o:=⟨fun hr=>Yl.Ma l (h hr) rfl rfl rfl rfl rfl⟩
def oM (lb:Nat) (rec:iH) (args:List SV) (hin:List (Nat × Option Ob)):St:=match get hin lb with
 |some (some (.loop _ _ sl))=> ⟨tX rec.ps args++sl,hin⟩
 |_=> ⟨[],[]⟩
def PY (lb:Nat) (st:St):St:=⟨st.slots,zn lb 1 st.heap⟩
def Ja (_:iH) (x:Option (Option Ob)):List Ck:=match x with
 |some (some (.loop r 0 sl))=>[.ob (some (.loop r 0 sl))]
 |_=>[.b true]
def AV (rec:iH) (x:Option (Option Ob)):List Ck:=match x with
 |some (some (.loop _ 0 sl))=>[.ob (some (.loop rec 0 sl))]
 |_=>[.b false]
theorem Gz {rec:iH} {x:Option (Option Ob)} (h:Ja rec x=AV rec x): ∃sl,x=some (some (.loop rec 0 sl)):=by
 unfold Ja AV at h;split at h
 ·simp only [List.cons.injEq,Ck.ob.injEq,Option.some.injEq,Ob.loop.injEq,and_true]at h;subst h;exact⟨_,rfl⟩
 ·simp at h
theorem scY (hT:kg P T) (hm:P.follows .mixedOrders=true) {lb:Nat} (rec:iH) {args:List SV} {hin:List (Nat × Option Ob)} {R:Type} {res:R->TV} {hout:R->List (Nat × Option Ob)} {o:Option R} (t:Tg Unit) (a:Sc Unit) (s:Sc R)
  (h0:Ja rec (get hin lb)=AV rec (get hin lb):=by kernel_rfl) (h1:Ja rec (get (t.at (oM lb rec args hin) ()).heap lb)=AV rec (get (t.at (oM lb rec args hin) ()).heap lb):=by kernel_rfl)
  (hb:(Nat.beq rec.ps.length args.length && (rY rec.ps && rec.ps.all (fun t=>Nat.blt t rec.N)))=true:=by kernel_rfl)
  (ha:(tr false P T rec.N a (hin.map (·.1)) (go FU (.c rec.assign) []) (oM lb rec args hin) [] [] (.jN (t.at (oM lb rec args hin)))).side true=(tr false P T rec.N a (hin.map (·.1)) (go FU (.c rec.assign) []) (oM lb rec args hin) [] [] (.jN (t.at (oM lb rec args hin)))).side false:=by kernel_rfl)
  (had:(tr false P T rec.N a (hin.map (·.1)) (go FU (.c rec.assign) []) (oM lb rec args hin) [] [] (.jN (t.at (oM lb rec args hin)))).den=some ():=by kernel_rfl)
  (hs:(tr false P T rec.N s (hin.map (·.1)) (go FU (.c rec.body) []) (PY lb (t.at (oM lb rec args hin) ())) [] [] (.yl lb rec res hout)).side true=(tr false P T rec.N s (hin.map (·.1)) (go FU (.c rec.body) []) (PY lb (t.at (oM lb rec args hin) ())) [] [] (.yl lb rec res hout)).side false:=by kernel_rfl)
  (hd:(tr false P T rec.N s (hin.map (·.1)) (go FU (.c rec.body) []) (PY lb (t.at (oM lb rec args hin) ())) [] [] (.yl lb rec res hout)).den=o:=by kernel_rfl):Yy P lb args hin res hout o:=by
 refine⟨fun{r} hr=> ?_⟩;obtain⟨sl,g0⟩:=Gz h0;obtain⟨sl2,g1⟩:=Gz h1;simp only [cd]at hb;have e0:oM lb rec args hin=⟨tX rec.ps args++sl,hin⟩:=by unfold oM;rw [g0]
 refine QV (r:=rec) (sl:=sl) (sl1:=(t.at (oM lb rec args hin) ()).slots) (h1:=(t.at (oM lb rec args hin) ()).heap) (sl2:=sl2) g0 (bv hb.1) hb.2.1 hb.2.2 (fun rd B=> ?_) g1 fun rd B=> ?_
 ·have h:=go_ok (n:=FU) (x:= .c rec.assign) (K:=[]) (Cn (rd:=rd) (q:=false) (B:=B) (fun h=>by cases h) hT hm a (Tr.lU ha) trivial had);rw [<-e0];exact jC (eH h fun e st hq=>by
   obtain⟨s',hi,hq⟩:=hq;exact⟨s',hi,hq.1,hq.2⟩)
 ·have h:=go_ok (n:=FU) (x:= .c rec.body) (K:=[]) (Cn (rd:=rd) (q:=false) (B:=B) (fun h=>by cases h) hT hm s (Tr.lU hs) trivial (hd.trans hr));exact jC (eH h fun e st hq=>hq)
end
namespace Sc
variable {P:Program}
def cy {b:Nat} {args:List SV} {hin:List (Nat × Option Ob)} {R T:Type} {res:T->TV} {hout:T->List (Nat × Option Ob)} {o:Option T} (i:Nat) (h:Yy P b args hin res hout o) (k:T->Sc R):Sc R:=
 .bd o (fun y=>Yl P b args hin (res y) (hout y)) (fun _ hy=>h hy) (fun y=>[(i, .call (jY hin) (res y) (hout y))]) k
def cl {f:Nat} {args:List SV} {hin:List (Nat × Option Ob)} {R T:Type} {res:T->TV} {hout:T->List (Nat × Option Ob)} {o:Option T} (i:Nat) (h:gK P f args hin res hout o) (k:T->Sc R):Sc R:=
 .bd o (fun y=>Fn P f args hin (res y) (hout y)) (fun _ hy=>h hy) (fun y=>[(i, .call (jY hin) (res y) (hout y))]) k
def cr {f:Nat} {args:List SV} {hin:List (Nat × Option Ob)} {R T:Type} {res:T->TV} {hout:T->List (Nat × Option Ob)} {o:Option T} (i:Nat) (h:gK P f args hin res hout o) (k:T->Sc R):Sc R:=
 .bd o (fun y=>Fn P f args hin (res y) (hout y)) (fun _ hy=>h hy) (fun y=>[(i, .callR (jY hin) (res y))]) k
def cg {f:Nat} {args:List SV} {hin:List (Nat × Option Ob)} {R T:Type} [Inhabited T] {res:T->TV} {hout:T->List (Nat × Option Ob)} {o:Option T} (i:Nat) (g:List (Bool × Bool)) (h:gK P f args hin res hout o) (k:T->Sc R):Sc R:=
 .bd (bif gB g then o else some default) (fun y=>gB g=true->Fn P f args hin (res y) (hout y)) (fun _ hy hg=>h (Zd hy hg)) (fun y=>[(i, .call (jY hin) (res y) (hout y))]) k
section
variable {R:Type} (a b c d e f:Prop) [Decidable a] [Decidable b] [Decidable c] [Decidable d] [Decidable e] [Decidable f]
def a1 (k:Sc R):Sc R:= .as a inferInstance [a] (fun h=> ⟨h,trivial⟩) k
def a2 (k:Sc R):Sc R:= .as (a/\b) inferInstance [a,b] (fun h=> ⟨h.1,h.2,trivial⟩) k
def a3 (k:Sc R):Sc R:= .as (a/\b/\c) inferInstance [a,b,c] (fun h=> ⟨h.1,h.2.1,h.2.2,trivial⟩) k
def a4 (k:Sc R):Sc R:= .as (a/\b/\c/\d) inferInstance [a,b,c,d] (fun h=> ⟨h.1,h.2.1,h.2.2.1,h.2.2.2,trivial⟩) k
def a5 (k:Sc R):Sc R:= .as (a/\b/\c/\d/\e) inferInstance [a,b,c,d,e] (fun h=> ⟨h.1,h.2.1,h.2.2.1,h.2.2.2.1,h.2.2.2.2,trivial⟩) k
def a6 (k:Sc R):Sc R:= .as (a/\b/\c/\d/\e/\f) inferInstance [a,b,c,d,e,f] (fun h=> ⟨h.1,h.2.1,h.2.2.1,h.2.2.2.1,h.2.2.2.2.1,h.2.2.2.2.2,trivial⟩) k
end
def rs {R:Type}:Nat->Sc R->Sc R
 |0,k=>k
 |n+1,k=> .rg {} [] (rs n k)
def r {R:Type} (k:Sc R):Sc R:= .rg {} [] k
def e {R:Type} (x:R):Sc R:= .en x [] []
def t {R:Type} (k:Sc R):Sc R:= .tf true [] k
def f {R:Type} (k:Sc R):Sc R:= .tf false [] k
end Sc
def Cs.e {α:Type} (x:α):Cs:= .pf ⟨x=x,rfl⟩
def Cs.t (j:Nat) (i:Int) (n:Nat):Cs:= .dv j ⟨0<=i/\i<(n:Int),i.toNat<n,toNat_lt⟩
def Cs.tg (j:Nat) (g:List (Bool × Bool)) (i:Int) (n:Nat):Cs:= .dv j ⟨gB g=true->0<=i/\i<(n:Int),gB g=true->i.toNat<n,fun h q=>toNat_lt (h q)⟩
def Im (b n:Nat):CV->CV
 | .own b' nn m=>bif Nat.beq b' b then .own b' nn n else .own b' nn m
 |c=>c
def abU (b n:Nat):SV->SV
 | .one c=> .one (Im b n c)
 | .agg cs=> .agg (cs.map (Im b n))
def Xp (b n:Nat):TV->TV
 | .v s=> .v (abU b n s)
 |t=>t
def WE (b n k:Nat):Option Ob->Option Ob
 |some (.cells E cs)=>some (.cells E (cs.map (Im b n)))
 |some (.arr E e m el)=>bif Nat.beq k b then some (.arr E e n el)else some (.arr E e m el)
 |some (.rows E e m el ov)=>bif Nat.beq k b then some (.rows E e n el ov)else some (.rows E e m el ov)
 |o=>o
def YF (b:Nat):CV->List Nat
 | .own b' _ m=>bif Nat.beq b' b then [m]else []
 |_=>[]
def lnS (b:Nat) (s:SV):List Nat:=(cellsOf s).flatMap (YF b)
def lnT (b:Nat):TV->List Nat
 | .v s=>lnS b s
 |_=>[]
def lnO (b k:Nat):Option Ob->List Nat
 |some (.cells _ cs)=>cs.flatMap (YF b)
 |some (.arr _ _ m _)=>bif Nat.beq k b then [m]else []
 |some (.rows _ _ m _ _)=>bif Nat.beq k b then [m]else []
 |_=>[]
def Vi (b:Nat) (st:St):List Nat:=(st.slots.flatMap fun p=>lnT b p.2)++st.heap.flatMap fun p=>lnO b p.1 p.2
theorem MX {b n:Nat} {c:CV} (h: ∀x∈YF b c,x=n):Im b n c=c:=by
 cases c<;>try rfl
 rename_i b' nn m;simp only [YF]at h;simp only [Im];cases hb:Nat.beq b' b with
 |true=>rw [hb]at h;rw [h m (cF.2 rfl)];rfl
 |false=>rfl
theorem Io {b n:Nat}: ∀{cs:List CV},(∀x∈cs.flatMap (YF b),x=n)->cs.map (Im b n)=cs
 |[],_=>rfl
 |c::cs,h=>by
  rw [cL,MX (fun x hx=>h x (by rw [List.flatMap_cons];exact List.mem_append_left _ hx)),Io (fun x hx=>h x (by rw [List.flatMap_cons];exact List.mem_append_right _ hx))]
theorem Vy {b n:Nat} {t:TV} (h: ∀x∈lnT b t,x=n):Xp b n t=t:=by
 cases t with
 |eB l=>rfl
 |v s=>
  cases s with
  |one c=>show TV.v (.one (Im b n c))=_;rw [MX (fun x hx=>h x (by show x∈[c].flatMap (YF b);simpa using hx))]
  |agg cs=>
   have:=Io (cs:=cs) h;show TV.v (.agg (cs.map (Im b n)))=_;rw [this]
theorem TF {b n k:Nat} {o:Option Ob} (h: ∀x∈lnO b k o,x=n):WE b n k o=o:=by
 cases o with
 |none=>rfl
 |some o=>
  cases o<;>try rfl
  ·rename_i E cs;have:=Io (cs:=cs) h;show some (Ob.cells E (cs.map (Im b n)))=_;rw [this]
  ·simp only [lnO]at h;show(bif Nat.beq k b then _ else _)=_;cases hb:Nat.beq k b with
   |true=>rw [hb]at h;rw [h _ (cF.2 rfl)];rfl
   |false=>rfl
  ·simp only [lnO]at h;show(bif Nat.beq k b then _ else _)=_;cases hb:Nat.beq k b with
   |true=>rw [hb]at h;rw [h _ (cF.2 rfl)];rfl
   |false=>rfl
def VX (b n:Nat) (st:St):St:=⟨st.slots.map fun p=>(p.1,Xp b n p.2),st.heap.map fun p=>(p.1,WE b n p.1 p.2)⟩
theorem QJ {b n:Nat} {st:St} (h: ∀x∈Vi b st,x=n):VX b n st=st:=by
 obtain⟨sl,hp⟩:=st;have h1: ∀{l:List (Nat × TV)},(∀x∈l.flatMap fun p=>lnT b p.2,x=n)->(l.map fun p=>(p.1,Xp b n p.2))=l:=by
  intro l;induction l with
  |nil=>intro _;rfl
  |cons p l ih=>intro h;rw [cL,ih (fun x hx=>h x (by rw [List.flatMap_cons];exact List.mem_append_right _ hx)),Vy (fun x hx=>h x (by rw [List.flatMap_cons];exact List.mem_append_left _ hx))]
 have h2: ∀{l:List (Nat × Option Ob)},(∀x∈l.flatMap fun p=>lnO b p.1 p.2,x=n)->(l.map fun p=>(p.1,WE b n p.1 p.2))=l:=by
  intro l;induction l with
  |nil=>intro _;rfl
  |cons p l ih=>intro h;rw [cL,ih (fun x hx=>h x (by rw [List.flatMap_cons];exact List.mem_append_right _ hx)),TF (fun x hx=>h x (by rw [List.flatMap_cons];exact List.mem_append_left _ hx))]
 show St.mk _ _=_;rw [h1 (fun x hx=>h x (List.mem_append_left _ hx)),h2 (fun x hx=>h x (List.mem_append_right _ hx))]
def IS.ln (b n m:Nat) (h:n=m):IS where
 act st:=(Vi b st).map .n
 want st:=(Vi b st).map fun _=> .n n
 nxt st:=VX b m st
 ok B N L st hs:=by
  subst h;rw [QJ];·exact .refl
  ·revert hs;generalize Vi b st=l;induction l with
   |nil=>intro _ x hx;simp at hx
   |cons y l ih=>
    intro hs x hx;simp only [cL,List.cons.injEq,Ck.n.injEq]at hs;rcases eh.1 hx with rfl|hx;·exact hs.1
    ·exact ih hs.2 x hx
def IS.ll {α:Type} (b:Nat) (l m:List α) (h:l.length=m.length:=by simp only [cH,b_,cX,List.length_nil,dt,d8]):IS:= .ln b _ _ h
def IS.us (t:Nat) (x y:TV) (h:Ca x y):IS where
 act st:=match get st.slots t with|some v=>[.tv v, .b true]|none=>[.tv x, .b false]
 want _:=[.tv x, .b true]
 nxt st:=⟨yt t y st.slots,st.heap⟩
 ok B N L st hs:=by
  cases hg:get st.slots t with
  |none=>rw [hg]at hs;simp at hs
  |some v=>
   rw [hg]at hs;simp only [List.cons.injEq,Ck.tv.injEq,and_true]at hs;subst hs;exact Sg.us t y hg h
def IS.uh (b:Nat) (x y:Option Ob) (h:G6 x y):IS where
 act st:=match get st.heap b with|some v=>[.hp [(b,v)], .b true]|none=>[.b false]
 want _:=[.hp [(b,x)], .b true]
 nxt st:=⟨st.slots,yt b y st.heap⟩
 ok B N L st hs:=by
  cases hg:get st.heap b with
  |none=>rw [hg]at hs;simp at hs
  |some v=>
   rw [hg]at hs;simp only [List.cons.injEq,Ck.hp.injEq,Prod.mk.injEq,true_and,and_true]at hs;subst hs;exact Sg.uh b y hg h
def IS.ad (t b E esz:Nat) (el:Nat->Nat->DV):IS where
 act st:=match get st.slots t,get st.heap b with
  |some (.v (.one (.d (.sl (some false) _ l _)))),none=>[.n l, .b true]
  |_,_=>[.b false]
 want _:=[.n 0, .b true]
 nxt st:=⟨(t, .v (.one (.own b false 0)))::st.slots,(b,some (.arr E esz 0 el))::st.heap⟩
 ok B N L st hs:=by
  split at hs
  ·rename_i e l f h1 h2;simp only [List.cons.injEq,Ck.n.injEq,and_true]at hs;subst hs;exact jl.YN h1 h2
  ·simp at hs
def IS.nR (p q b E esz:Nat) (el:Nat->Nat->DV):IS where
 act st:=match get st.heap p,get st.heap b with
  |some (some (.cells _ cs)),none=>match cs[q]? with
   |some (.d (.sl (some false) _ l _))=>[.n l, .b true]
   |_=>[.b false]
  |_,_=>[.b false]
 want _:=[.n 0, .b true]
 nxt st:=match get st.heap p with
  |some (some (.cells E0 cs))=> ⟨st.slots,(p,some (.cells E0 (cs.set q (.own b false 0))))::(b,some (.arr E esz 0 el))::st.heap⟩
  |_=>st
 ok B N L st hs:=by
  split at hs
  ·rename_i E0 cs h1 h2;split at hs
   ·rename_i e l f h3;simp only [List.cons.injEq,Ck.n.injEq,and_true]at hs;subst hs;rw [h1];exact jl.X7 (E:=0) (esz:=0) (fun _ _ _ _ h=> .inl ⟨h,rfl⟩) h1 h3 h2
   ·simp at hs
  ·simp at hs
def IS.re (p q b b':Nat):IS where
 act st:=match get st.heap p,get st.heap b,get st.heap b' with
  |some (some (.cells _ cs)),some (some (.arr _ _ _ _)),none=>match cs[q]? with
   |some (.own k _ _)=>[.n k, .b true]
   |_=>[.b false]
  |_,_,_=>[.b false]
 want _:=[.n b, .b true]
 nxt st:=match get st.heap p,get st.heap b with
  |some (some (.cells E0 cs)),some (some (.arr E esz n el))=>match cs[q]? with
   |some (.own _ nn len)=> ⟨st.slots,(p,some (.cells E0 (cs.set q (.own b' nn len))))::(b',some (.arr E esz n el))::(b,none)::st.heap⟩
   |_=>st
  |_,_=>st
 ok B N L st hs:=by
  split at hs
  ·rename_i E0 cs E esz n el h1 h2 h3;split at hs
   ·rename_i k nn len h4;simp only [List.cons.injEq,Ck.n.injEq,and_true]at hs;subst hs;rw [h1,h2];simp only [h4];exact jl.Zo h1 h4 h2 h3
   ·simp at hs
  ·simp at hs
def IS.adR (t b E esz:Nat) (el:Nat->Nat->EV):IS where
 act st:=match get st.slots t,get st.heap b with
  |some (.v (.one (.d (.sl (some false) _ l _)))),none=>[.n l, .b true]
  |_,_=>[.b false]
 want _:=[.n 0, .b true]
 nxt st:=⟨(t, .v (.one (.own b false 0)))::st.slots,(b,some (.rows E esz 0 el none))::st.heap⟩
 ok B N L st hs:=by
  split at hs
  ·rename_i e l f h1 h2;simp only [List.cons.injEq,Ck.n.injEq,and_true]at hs;subst hs;exact jl.XL h1 h2
  ·simp at hs
def Sc.sb {R:Type} (t:Nat) (b x y v:Bool) (j:Nat) (k:Sc R):Sc R:=
 .wi j {
  p:=b=v,act:=(fun st=>match get st.slots t with|some w=>[.tv w, .b true]|none=>[.tv (vB x), .b false]),want:=fun _=>[.tv (vB (bif b then x else y)), .b true],nxt:=fun st=> ⟨yt t (vB (bif v then x else y)) st.slots,st.heap⟩,
  ok:=fun hp B N L st hs=>by
   subst hp;cases hg:get st.slots t with
   |none=>rw [hg]at hs;simp at hs
   |some w=>
    rw [hg]at hs;simp only [List.cons.injEq,Ck.tv.injEq,and_true]at hs;subst hs;exact Sg.us t _ hg (.refl _)} k
def Sc.sn {R:Type} (t:Nat) (x q:Int) (p:Prop) (h:p->x=q) (j:Nat) (k:Sc R):Sc R:=
 .wi j {
  p:=p,act:=(fun st=>match get st.slots t with|some w=>[.tv w, .b true]|none=>[.tv (vI x), .b false]),want:=fun _=>[.tv (vI x), .b true],nxt:=fun st=> ⟨yt t (vI q) st.slots,st.heap⟩,
  ok:=fun hp B N L st hs=>by
   have:=h hp;subst this;cases hg:get st.slots t with
   |none=>rw [hg]at hs;simp at hs
   |some w=>
    rw [hg]at hs;simp only [List.cons.injEq,Ck.tv.injEq,and_true]at hs;subst hs;exact Sg.us t _ hg (.refl _)} k
def Sc.si {R:Type} (t:Nat) (x q:Int) (j:Nat) (k:Sc R):Sc R:=Sc.sn t x q (decide (x=q)=true) of_decide_eq_true j k
def Sc.sj {R:Type} (t:Nat) (x q:Int) (j:Nat) (k:Sc R):Sc R:=Sc.sn t x q (x=q) id j k
def Sc.un {α R:Type} [Inhabited α] (b c E esz:Nat) (cf:α->Nat->DV) (l:List α) (q:Int) (j:Nat) (k:Sc R):Sc R:=
 .wi j {
  p:=0<=q/\q<=(l.length:Int),act:=(fun st=>match get st.heap b,get st.heap c with|some x,some y=>[.ob x, .ob y, .b (Nat.ble 1 esz)]|_,_=>[.b false]),
  want:=fun _=>[.ob (some (.arr E esz l.length (aj cf l))), .ob (some (.suf b q.toNat esz)), .b true],nxt:=fun st=> ⟨st.slots,(c,some (.arr E esz (l.length - q.toNat) (aj cf (l.drop q.toNat))))::(b,none)::st.heap⟩,
  ok:=fun hp B N L st hs=>by
   split at hs
   ·rename_i x y h1 h2;simp only [List.cons.injEq,Ck.ob.injEq,Ck.b.injEq,and_true]at hs;obtain⟨rfl,rfl,hz⟩:=hs;exact jl.Xw h1 h2 (by omega) (by have:=cj hz;omega)
   ·simp at hs} k
def IS.tr (b E esz len:Nat) (el:Nat->Nat->DV) (el':Nat->Nat->EV) (h: ∀i,i<len-> ∀j,j<esz->Pt (el i j) (el' i j)):IS where
 act st:=match get st.heap b with|some x=>[.ob x]|none=>[.b false]
 want _:=[.ob (some (.arr E esz len el))]
 nxt st:=⟨st.slots,(b,some (.rows E esz len el' none))::st.heap⟩
 ok B N L st hs:=by
  split at hs
  ·rename_i x h1;simp only [List.cons.injEq,Ck.ob.injEq,and_true]at hs;subst hs;exact jl.Xo h1 h
  ·simp at hs
end Sg
