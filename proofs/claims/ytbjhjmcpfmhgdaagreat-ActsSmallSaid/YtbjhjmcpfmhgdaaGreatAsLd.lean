import Derived.Test.YtbjhjmcpfmhgdaaGreatAsLc
set_option linter.all false
namespace Sg
open Go Go.ChangeMaps
def Zu {σ ρ:Type} (l:List (Int × List Int)) (p:Int × List Int→Bool) (mb:Int × List Int→σ→Option (dG σ (Ex σ ρ))) (s:σ):Option (Ex σ ρ):=
 match l.filter p with
 |[]=>some (.brk s)
 |[x]=>match mb x s with|some (.next s')=>some (.brk s')|some (.done r)=>some r|none=>none
 |_=>none
def Ql {σ R:Type}:dG σ (Ex Empty R)→dG σ (Ex σ R)
 | .next s=> .next s
 | .done (.ret v)=> .done (.ret v)
 | .done (.brk z)=>z.elim
def goG {σ R:Type} (l:List (Int × List Int)) (p:Int × List Int→Bool) (mb:Int × List Int→σ→Option (dG σ (Ex Empty R))) (s:σ):Option (Ex σ R):=
 Zu l p (fun x s=>(mb x s).map Ql) s
section
variable {P:Program} {B:Base} {N:Nat} {L:List Nat} {st:St} {rd:Option Nat}
theorem Ai {T:List (Nat × TI)} (hT:mI P T) {ops:Array Oper} {yb:Nat→Bool} {an:Nat→mR} {fr:Nat→Nat} {Q:Exit→Act→World→Prop} {l2:List Nat}: ∀{l:List Nat} {r r':RS} {cs:List Prop} {a:Act} {w:World},run (CF P) T ops.toList yb an fr N l r=some (cs,r')→All cs→RC B yb N r a w→
  (∀a' w',RC B yb N r' a' w'→wpOpsIn (FW rd) 0 P ops Q l2 a' w')→wpOpsIn (FW rd) 0 P ops Q (l++l2) a w
 |[],r,r',cs,a,w,hr,hc,hrc,hQ=>by
  simp [run]at hr
  obtain⟨rfl,rfl⟩:=hr
  exact hQ a w hrc
 |i::l,r,r',cs,a,w,hr,hc,hrc,hQ=>by
  simp only [run]at hr
  split at hr
  ·rename_i c r1 h1
   split at hr
   ·rename_i c' r2 h2
    cases hr
    rw [bA]at hc
    rw [List.cons_append,wpOpsIn_cons]
    exact Bn hT h1 hc.1 hrc fun a' w' h'=>Ai hT h2 hc.2 h' hQ
   ·cases hr
  ·cases hr
theorem Zm {T:List (Nat × TI)} (hT:mI P T) {ops:Array Oper} {l:List Nat} (s:St) (x:Ag) {cs:List Prop} (he:NM (CF P) T ops l N L x st=some (cs,s)) (hc:All cs) {Q:Exit→Act→World→Prop} {l2:List Nat}
  (hq: ∀a w,Conc B N L s a w→wpOpsIn (FW rd) 0 P ops Q l2 a w): ∀a w,Conc B N L st a w→wpOpsIn (FW rd) 0 P ops Q (l++l2) a w:=by
 intro a w hconc
 unfold NM at he
 split at he
 ·rename_i cs0 r hrun
  have hid:=hconc.ids
  exact Ai hT hrun (qF he hc) (qU hconc) fun a' w' hrc=>hq _ _ (pI he hc hrc hid)
 ·cases he
structure yj (B:Base) (N:Nat) (L:List Nat) (st:St) (it kit b km n:Nat) (seen:Array Nat) (a:Act) (w:World):Prop where
 ex: ∃ρ F ft,Fr B ρ F w∧nU B ρ F w (aT st.heap) ft∧(∀t tv,get st.slots t=some tv→ ∃v,a.tmps[t]? =some v∧bC ρ F w tv v)∧Marks B F w a.defers∧ρ it=some (.blk kit 0 0)∧(∃base cap,ρ b=some (.blk km base cap))∧
  ¬ F kit∧ ∀b ob,aT st.heap b=some (some ob)→ ¬ ft b kit
 ids: ∀b p,B.ρ b=some p→b∈L
 sz:a.tmps.size=N
 bit:B.w.heap.size≤kit
 itx:w.heap[kit]? =some (.mapIter (some km) n seen n)
theorem yj.QG {it kit b km n:Nat} {seen:Array Nat} {a:Act} {w:World} (h:yj B N L st it kit b km n seen a w):Conc B N L st a w:=by
 obtain⟨⟨ρ,F,ft,h1,h2,h3,h4,_⟩,h5,h6,_,_⟩:=h
 exact⟨⟨ρ,F,h1,⟨ft,h2⟩,h3,h4⟩,h5,h6⟩
theorem yj.base {it kit b km n:Nat} {seen:Array Nat} {a:Act} {w:World} (hne:it≠b) (h:yj B N L st it kit b km n seen a w):
  ∃B',Conc B' N (it::b::L) st a w∧ ∀st' a' w',Conc B' N (it::b::L) st' a' w'→yj B N L st' it kit b km n seen a' w':=by
 obtain⟨⟨ρ,F,ft,fr,hi,hs,dn,hit,⟨bb,bc,hbm⟩,hF,hK⟩,ids,sz,bit,itx⟩:=h
 have lk:kit<w.heap.size:=lt_of_heap itx
 let B':Base:=⟨w,(fun x=>if x=it then some (.blk kit 0 0)else if x=b then some (.blk km bb bc)else B.ρ x),F,(fun k=> ∃b ob,aT st.heap b=some (some ob)∧ft b k),B.mb,B.df⟩
 have bρ: ∀x,B'.ρ x=if x=it then some (.blk kit 0 0)else if x=b then some (.blk km bb bc)else B.ρ x:=fun _=>rfl
 have nK: ¬ B'.Ft kit:=fun⟨b,ob,h1,h2⟩=>hK b ob h1 h2
 refine⟨B',⟨⟨ρ,F,⟨rfl,rfl, .refl _,Nat.le_refl _,fun _ _ _=>rfl,fun x p e=> ?_,fun k hk=> ⟨(fr.fz k hk).1, .inl hk⟩,fun _ h=>h⟩,⟨ft,hi.obj,fun b ob k hb hf=> ⟨(hi.blk b ob k hb hf).1,(hi.blk b ob k hb hf).2.1, .inl ⟨b,ob,hb,hf⟩⟩,hi.dis,hi.fresh,hi.gl⟩,hs, ?_⟩,fun x p e=> ?_,sz⟩, ?_⟩
 ·rw [bρ]at e
  by_cases h1:x=it
  ·rw [if_pos h1]at e;rw [h1,hit,e]
  ·rw [if_neg h1]at e
   by_cases h2:x=b
   ·rw [if_pos h2]at e;rw [h2,hbm,e]
   ·rw [if_neg h2]at e;exact fr.rho x p e
 ·obtain⟨d0,Ds,d1,d2,d3⟩:=dn
  exact⟨Nat.le_trans d0 fr.size,Ds,d1,d2,d3⟩
 ·rw [bρ]at e
  by_cases h1:x=it
  ·rw [h1];exact List.mem_cons_self
  ·rw [if_neg h1]at e
   by_cases h2:x=b
   ·rw [h2];exact List.mem_cons_of_mem _ List.mem_cons_self
   ·rw [if_neg h2]at e;exact List.mem_cons_of_mem _ (List.mem_cons_of_mem _ (ids x p e))
 ·rintro st' a' w' ⟨⟨ρ',F',fr',⟨ft',hi'⟩,hs',dn'⟩,_,sz'⟩
  have inB: ∀k,(B'.Ft k∨w.heap.size≤k)→B.Ft k∨B.w.heap.size≤k:=fun k hk=>by
   rcases hk with⟨b,ob,h1,h2⟩|hk
   ·exact(hi.blk b ob k h1 h2).2.2
   ·exact .inr (Nat.le_trans fr.size hk)
  have hit':ρ' it=some (.blk kit 0 0):=fr'.rho it _ (by rw [bρ,if_pos rfl])
  have hbm':ρ' b=some (.blk km bb bc):=fr'.rho b _ (by rw [bρ,if_neg (Ne.symm hne),if_pos rfl])
  have hmem:w'.heap[kit]? =w.heap[kit]? :=fr'.mem kit lk nK
  refine⟨⟨ρ',F',ft',⟨fr'.os.trans fr.os,fr'.tape.trans fr.tape,fr'.output.trans fr.output,Nat.le_trans fr.size fr'.size,fun k hk hn=> ?_,fun x p e=> ?_,fun k hk=> ?_,fun k hk=>fr'.bf k (fr.bf k hk)⟩,⟨hi'.obj,fun b ob k hb hf=> ?_,hi'.dis,hi'.fresh,hi'.gl⟩,hs', ?_,hit',⟨bb,bc,hbm'⟩,fun hf=> ?_,fun b ob hb hf=> ?_⟩,ids,sz',bit,hmem.trans itx⟩
  ·refine(fr'.mem k (Nat.lt_of_lt_of_le hk fr.size) fun⟨b,ob,h1,h2⟩=> ?_).trans (fr.mem k hk hn)
   rcases(hi.blk b ob k h1 h2).2.2 with h|h
   ·exact hn h
   ·omega
  ·have e2:=fr.rho x p e
   refine fr'.rho x p ?_
   rw [bρ]
   by_cases h1:x=it
   ·rw [if_pos h1,←e2,h1,hit]
   ·rw [if_neg h1]
    by_cases h2:x=b
    ·rw [if_pos h2,←e2,h2,hbm]
    ·rw [if_neg h2];exact e
  ·obtain⟨x1,x2⟩:=fr'.fz k hk
   refine⟨x1, ?_⟩
   rcases x2 with x2|x2
   ·exact(fr.fz k x2).2
   ·exact .inr (inB k x2)
  ·obtain⟨x1,x2,x3⟩:=hi'.blk b ob k hb hf
   exact⟨x1,x2,inB k x3⟩
  ·obtain⟨_,Ds,d1,d2,d3⟩:=dn'
   exact⟨dn.1,Ds,d1,d2,d3⟩
  ·rcases(fr'.fz kit hf).2 with x|x|x
   ·exact hF x
   ·exact nK x
   ·exact absurd x (by show ¬ w.heap.size≤kit;omega)
  ·rcases(hi'.blk b ob kit hb hf).2.2 with x|x
   ·exact nK x
   ·exact absurd x (by show ¬ w.heap.size≤kit;omega)
theorem yj.put {it kit b km n:Nat} {seen:Array Nat} {a:Act} {w:World} (h:yj B N L st it kit b km n seen a w) {d:Nat} {tv:TV} {v:Value} (hd:d<N) (hr: ∀ρ F w,bC ρ F w tv v):
  yj B N L ⟨(d,tv)::st.slots,st.heap⟩ it kit b km n seen (a.put (some d) v) w:=by
 obtain⟨⟨ρ,F,ft,fr,hi,hs,dn,hit,hbm,hF,hK⟩,ids,sz,bit,itx⟩:=h
 exact⟨⟨ρ,F,ft,fr,hi,qG hs (by omega) (hr _ _ _),dn,hit,hbm,hF,hK⟩,ids,by simp [Act.put,sz],bit,itx⟩
theorem yj.Ve {it kit b km n:Nat} {seen:Array Nat} {a:Act} {w:World} (h:yj B N L st it kit b km n seen a w) {d:Nat} {v:Value} (hd:get st.slots d=none):
  yj B N L st it kit b km n seen (a.put (some d) v) w:=by
 obtain⟨⟨ρ,F,ft,fr,hi,hs,dn,hit,hbm,hF,hK⟩,ids,sz,bit,itx⟩:=h
 refine⟨⟨ρ,F,ft,fr,hi,fun t tv ht=> ?_,dn,hit,hbm,hF,hK⟩,ids,by simp [Act.put,sz],bit,itx⟩
 obtain⟨u,hu,hr⟩:=hs t tv ht
 have hne:d≠t:=fun e=>by subst e;rw [hd]at ht;cases ht
 exact⟨u,by simp only [Act.put];rw [Array.getElem?_setIfInBounds_ne hne];exact hu,hr⟩
theorem yj.turn {it kit b km n:Nat} {seen seen':Array Nat} {a:Act} {w w':World} (h:yj B N L st it kit b km n seen a w) (ho:w'.os=w.os) (ht:w'.tape=w.tape) (hp:OD w' w)
  (hh:w'.heap=w.heap.setIfInBounds kit (.mapIter (some km) n seen' n)):yj B N L st it kit b km n seen' a w':=by
 obtain⟨⟨ρ,F,ft,fr,hi,hs,dn,hit,hbm,hF,hK⟩,ids,sz,bit,itx⟩:=h
 have hlt:=lt_of_heap itx
 have hold: ∀k,k≠kit→w'.heap[k]? =w.heap[k]? :=fun k hk=>by rw [hh,Array.getElem?_setIfInBounds_ne (Ne.symm hk)]
 have hsz:w'.heap.size=w.heap.size:=by rw [hh,Array.size_setIfInBounds]
 have g:Gr ρ F w ρ F w':=⟨fun _ _ h=>h,fun _ h=>h,fun k hk=>hold k fun e=>hF (e ▸ hk)⟩
 refine⟨⟨ρ,F,ft,⟨ho.trans fr.os,ht.trans fr.tape,hp.trans fr.output,by rw [hsz];exact fr.size,fun k hk hn=>(hold k (by omega)).trans (fr.mem k hk hn),fr.rho,fun k hk=> ⟨by rw [hsz];exact(fr.fz k hk).1,(fr.fz k hk).2⟩,fr.bf⟩,
  ⟨fun b ob hb=>(hi.obj b ob hb).keep g (fun _ h=>h) fun k hk=>hold k fun e=>hK b ob hb (e ▸ hk),fun b ob k hb hf=> ⟨by rw [hsz];exact(hi.blk b ob k hb hf).1,(hi.blk b ob k hb hf).2⟩,hi.dis,hi.fresh,hi.gl.gr g⟩,
  fun t tv h=> ?_,dn.gr g,hit,hbm,hF,hK⟩,ids,sz,bit,by rw [hh];simp [hlt]⟩
 obtain⟨v,hv,hr⟩:=hs t tv h
 exact⟨v,hv,hr.gr g⟩
theorem yj.eval {it kit b km n:Nat} {seen:Array Nat} {a:Act} {w:World} (h:yj B N L st it kit b km n seen a w) {t:Nat} (hsl:get st.slots t=some (.v (.one (.ptr it 0)))):a.eval (.tmp t)= .pointer (some ⟨kit,0,none⟩):=by
 obtain⟨⟨ρ,F,ft,fr,hi,hs,dn,hit,_⟩,_⟩:=h
 obtain⟨v,hv,k,base,cap,h1,h2⟩:=hs _ _ hsl
 rw [hit]at h1;cases h1
 simp [Act.eval,hv,h2]
structure WJ (w:World) (km:Nat) (l:List (Int × List Int)) (es:Array MapEntry):Prop where
 at_:w.heap[km]? =some (.map es es.size)
 sz:es.size=l.length
 ent: ∀i,i<l.length→ ∃e,es[i]? =some e∧e.born=i∧e.key= .int .i64 (l.getD i default).1
theorem WJ.born {w:World} {km:Nat} {l:List (Int × List Int)} {es:Array MapEntry} (h:WJ w km l es):es.toList.map (·.born)=List.range l.length:=by
 apply List.ext_getElem?
 intro i
 rw [List.getElem?_map,Array.getElem?_toList]
 by_cases hi:i<l.length
 ·obtain⟨e,h1,h2,_⟩:=h.ent i hi
  rw [h1,List.getElem?_range hi]
  simp [h2]
 ·rw [Array.getElem?_eq_none (by rw [h.sz];omega),List.getElem?_eq_none (by simp;omega)];rfl
theorem WJ.mem {w:World} {km:Nat} {l:List (Int × List Int)} {es:Array MapEntry} (h:WJ w km l es) {e:MapEntry} (he:e∈es.toList):e.born<l.length∧es[e.born]? =some e:=by
 obtain⟨i,hi,rfl⟩:=List.mem_iff_getElem.1 he
 have hi2:i<l.length:=by rw [←h.sz];simpa using hi
 obtain⟨e',h1,h2,_⟩:=h.ent i hi2
 have:es[i]? =some (es.toList[i]):=by rw [←Array.getElem?_toList,List.getElem?_eq_getElem hi]
 rw [this]at h1;cases h1
 rw [h2]
 exact⟨hi2,this⟩
theorem yj.es {it kit b km n:Nat} {seen:Array Nat} {a:Act} {w:World} (h:yj B N L st it kit b km n seen a w) {K V E:TypeId} {l:List (Int × List Int)} {ov:Option (Int × CV)} (hb:get st.heap b=some (some (.gm K V E l ov))): ∃es,WJ w km l es:=by
 obtain⟨⟨ρ,F,ft,fr,hi,hs,dn,hit,⟨bb,bc,hbm⟩,hF,hK⟩,ids,sz,bit,itx⟩:=h
 obtain⟨k,base,cap,es,rb,m1,m0,m2,m3,m4,m5,m6,m7⟩:=hi.obj b _ hb
 rw [hbm]at m1;cases m1
 exact⟨es,m2,m3,fun i hi=>by obtain⟨e,e1,e2,e3,_⟩:=m4 i hi;exact⟨e,e1,e2,e3⟩⟩
theorem yj.next {it kit b km:Nat} {l:List (Int × List Int)} {es:Array MapEntry} {seen:Array Nat} {a:Act} {w:World} (h:yj B N L st it kit b km l.length seen a w) (hes:WJ w km l es)
  {o0 o1:Oper} {t2 t3 t4 id:Nat} (e0:o0.op= .next (.tmp t2) false) (g0:o0.guard=none) (d0:o0.dst=some t3) (e1:o1.op= .extract (.tmp t3) 0) (g1:o1.guard=none) (d1:o1.dst=some t4) (h3:t3<N) (h4:t4<N)
  (hsl:get st.slots t2=some (.v (.one (.ptr it 0)))) (hs3:get st.slots t3=none) {Q:Exit→Act→World→Prop}
  (hend:(∀i,i<l.length→i∈seen)→ ∀a' w',yj B N L ⟨(t4,vB false)::st.slots,st.heap⟩ it kit b km l.length seen a' w'→Q .normal a' w')
  (hmore: ∀i,i<l.length→i ∉ seen→ ∀a' w',yj B N L ⟨(t4,vB true)::st.slots,st.heap⟩ it kit b km l.length (seen.push i) a' w'→Q .normal a' w'):
  (Code.region id #[o0,o1] false).wpIn (FW rd) 0 P Q a w:=by
 refine wpIn_region ?_
 show wpOpsIn _ _ _ _ _ [0,1] a w
 have hev:=h.eval hsl
 have hn:=hes.sz
 have hbd: ∀x∈es.toList,x.born<l.length:=fun x hx=>(hes.mem hx).1
 have hput: ∀(w':World) (v:Value),(execOp (a.put (some t3) v).eval o1).run P w'=(Instr.extract v 0>>=fun v=>pure (Next.value v):Sem Next).run P w':=fun w' v=>by
  have:(a.put (some t3) v).eval (.tmp t3)=v:=by simp [Act.eval,Act.put,h.sz,h3]
  simp only [execOp,e1,this]
 rcases run_next_at (P:=P) w o0.type kit km l.length l.length seen es es.size h.itx hes.at_ hbd (Nat.le_refl _)with⟨hl,hrun⟩|⟨e,he,w1,hw1,hrun⟩
 ·rw [wpOpsIn_cons]
  refine iM (o:=o0) rfl g0 (v:= .tuple #[.bool false]) (w':=w) ?_ ?_
  ·simp only [execOp,e0,hev,Sem.run_bind,hrun,Result.andThen_ok,Sem.run_pure]
  rw [wpOpsIn_cons]
  refine iM (o:=o1) rfl g1 (v:= .bool false) (w':=w) ?_ ?_
  ·rw [d0,hput];simp [Instr.extract]
  rw [d0,d1]
  refine hend (fun i hi=> ?_) _ _ ((h.Ve hs3).put (tv:=vB false) h4 fun ρ F w=>rfl)
  obtain⟨e,q1,q2,_⟩:=hes.ent i hi
  apply Classical.byContradiction
  intro hns
  have:e∈leftOf es seen:=by
   unfold leftOf
   rw [Array.mem_filter]
   exact⟨Array.mem_of_getElem? q1,by simp [q2,hns]⟩
  have:=Array.size_pos_of_mem this
  omega
 ·have hel:e∈es∧e.born ∉ seen:=by
   have:e∈leftOf es seen:=by simpa using he
   unfold leftOf at this
   rw [Array.mem_filter]at this
   exact⟨this.1,by simpa using this.2⟩
  obtain⟨m1,m2⟩:=hes.mem (by simpa using hel.1)
  rw [hn]at hrun
  rw [wpOpsIn_cons]
  refine iM (o:=o0) rfl g0 (v:= .tuple #[.bool true,e.key,e.val]) (w':=setBlock w1 kit (.mapIter (some km) l.length (seen.push e.born) l.length)) ?_ ?_
  ·simp only [execOp,e0,hev,Sem.run_bind,hrun,Result.andThen_ok,Sem.run_pure]
  rw [wpOpsIn_cons]
  refine iM (o:=o1) rfl g1 (v:= .bool true) (w':=setBlock w1 kit (.mapIter (some km) l.length (seen.push e.born) l.length)) ?_ ?_
  ·rw [d0,hput];simp [Instr.extract]
  rw [d0,d1]
  have h':yj B N L st it kit b km l.length (seen.push e.born) a (setBlock w1 kit (.mapIter (some km) l.length (seen.push e.born) l.length)):=by
   rcases hw1 with rfl|rfl
   ·exact h.turn rfl rfl rfl rfl
   ·exact h.turn rfl rfl rfl rfl
  exact hmore _ m1 hel.2 _ _ ((h'.Ve hs3).put (tv:=vB true) h4 fun ρ F w=>rfl)
theorem yj.entry {it kit b c km i:Nat} {K V E:TypeId} {l:List (Int × List Int)} {seen:Array Nat} {a:Act} {w:World} (h:yj B N L st it kit b km l.length (seen.push i) a w) (hi:i<l.length) (hb:get st.heap b=some (some (.gm K V E l none))) (hcn:get st.heap c=none) (hci:c≠it)
  {ops:Array Oper} {lops:List Nat} {o0 o1 o2:Oper} {t2 t5 t6 t7 id:Nat} (hl:List.range ops.size=0::1::2::lops) (p0:ops[0]? =some o0) (p1:ops[1]? =some o1) (p2:ops[2]? =some o2)
  (e0:o0.op= .entry (.tmp t2)) (g0:o0.guard=none) (d0:o0.dst=some t5) (e1:o1.op= .extract (.tmp t5) 0) (g1:o1.guard=none) (d1:o1.dst=some t6) (e2:o2.op= .extract (.tmp t5) 1) (g2:o2.guard=none) (d2:o2.dst=some t7)
  (h5:t5<N) (h6:t6<N) (h7:t7<N) (n56:t5≠t6)
  (hsl:get st.slots t2=some (.v (.one (.ptr it 0)))) (hs5:get st.slots t5=none) {Q:Exit→Act→World→Prop}
  (hQ: ∀a' w',yj B N L ⟨(t7, .v (.one (.own c false (l.getD i default).2.length)))::(t6,vI (l.getD i default).1)::st.slots,(b,some (.gm K V E l (some ((l.getD i default).1, .own c false (l.getD i default).2.length))))::(c,some (.arr E 1 (l.getD i default).2.length (AB (l.getD i default).2)))::st.heap⟩ it kit b km l.length (seen.push i) a' w'→wpOpsIn (FW rd) 0 P ops Q lops a' w'):
  (Code.region id ops false).wpIn (FW rd) 0 P Q a w:=by
 refine wpIn_region ?_
 rw [hl]
 have hev:=h.eval hsl
 obtain⟨es,hes⟩:=h.es hb
 obtain⟨e,q1,q2,q3⟩:=hes.ent i hi
 have hmem:e∈es.toList:=by rw [←Array.getElem?_toList]at q1;exact List.mem_of_getElem? q1
 have hn:=hes.sz
 have hrun:=run_entry_at (P:=P) w kit km l.length seen es es.size e (by rw [q2,hn];exact h.itx) hes.at_ hmem (by rw [hes.born];exact List.nodup_range)
 have sz:=h.sz
 rw [wpOpsIn_cons]
 refine iM (o:=o0) p0 g0 (v:= .tuple #[e.key,e.val]) (w':=w) ?_ ?_
 ·simp only [execOp,e0,hev,Sem.run_bind,hrun,Result.andThen_ok,Sem.run_pure]
 rw [d0,wpOpsIn_cons]
 refine iM (o:=o1) p1 g1 (v:=e.key) (w':=w) ?_ ?_
 ·have:(a.put (some t5) (.tuple #[e.key,e.val])).eval (.tmp t5)= .tuple #[e.key,e.val]:=by simp [Act.eval,Act.put,sz,h5]
  simp [execOp,e1,this,Instr.extract]
 rw [d1,wpOpsIn_cons]
 refine iM (o:=o2) p2 g2 (v:=e.val) (w':=w) ?_ ?_
 ·have:((a.put (some t5) (.tuple #[e.key,e.val])).put (some t6) e.key).eval (.tmp t5)= .tuple #[e.key,e.val]:=by
   rw [eval_put_ne n56,yY (by omega)]
  simp [execOp,e2,this,Instr.extract]
 rw [d2]
 refine hQ _ _ ?_
 have h1:yj B N L ⟨(t6,vI (l.getD i default).1)::st.slots,st.heap⟩ it kit b km l.length (seen.push i) ((a.put (some t5) (.tuple #[e.key,e.val])).put (some t6) e.key) w:=
  (h.Ve hs5).put (tv:=vI (l.getD i default).1) h6 fun ρ F w=>q3
 obtain⟨⟨ρ,F,ft,fr,hif,hs,dn,hit,hbm,hF,hK⟩,ids,sz1,bit,itx⟩:=h1
 obtain⟨bb,bc,hbm⟩:=hbm
 have hob:aT st.heap b=some (some (.gm K V E l none)):=hb
 have hcn':aT st.heap c=none:=hcn
 obtain⟨k',base',cap',es',rb,m1,m0,m2,m3,m4,m5,m6,m7⟩:=hif.obj b _ hob
 have hk:=m1
 rw [hbm]at m1;cases m1
 have hee:es'=es:=by have:=hes.at_;rw [m2]at this;cases this;rfl
 subst hee
 obtain⟨e',x1,x2,x3,x4⟩:=m4 i hi
 rw [q1]at x1;cases x1
 have x4:gY F w (ft b) (rb i) (Mg E (l.getD i default).2) e.val:=x4
 have hρc:=hif.fresh c hcn'
 have grn: ∀p,Gr ρ F w (bG ρ c p) F w:=fun p=> ⟨aR hρc,fun _ h=>h,fun _ _=>rfl⟩
 have frn: ∀p,Fr B (bG ρ c p) F w:=fun p=>{fr with rho:=fun b' p' e=>aR hρc b' p' (fr.rho b' p' e)}
 have hbc:b≠c:=fun e=>by rw [e,hcn']at hob;cases hob
 have rest: ∀(p:Pl) (S1:Nat→Prop),(∀q,S1 q↔ft b q∧rb i≠some q)→dO (bG ρ c p) F w (.own c false (l.getD i default).2.length) e.val→iH (bG ρ c p) F w S1 b (.gm K V E l (some ((l.getD i default).1, .own c false (l.getD i default).2.length))):=by
  intro p S1 hS1 hcu
  refine⟨km,bb,bc,es',rb,aR hρc _ _ hk,(hS1 km).2 ⟨m0,m6 i⟩,m2,m3,fun i' hi'=> ?_,m5,m6,m7⟩
  obtain⟨e',y1,y2,y3,y4⟩:=m4 i' hi'
  refine⟨e',y1,y2,y3, ?_⟩
  unfold zy
  simp only
  split
  ·rename_i q
   have:=qH m7 hi' hi q
   subst this
   rw [q1]at y1;cases y1
   exact hcu
  ·rename_i hne
   have y4:gY F w (ft b) (rb i') (Mg E (l.getD i' default).2) e'.val:=y4
   rcases y4 with y4|⟨q,bq,cq,z1,z2,z3,z4⟩
   ·exact .inl y4
   ·exact .inr ⟨q,bq,cq,z1,(hS1 q).2 ⟨z2,fun eq=>hne (by rw [m5 _ _ _ z1 eq])⟩,z3,z4⟩
 have done: ∀(p:Pl) (S2:Nat→Prop),(∀q,S2 q→ft b q)→(∀q,(ft b q∧rb i≠some q)→S2 q→False)→dO (bG ρ c p) F w (.own c false (l.getD i default).2.length) e.val→iH (bG ρ c p) F w S2 c (.arr E 1 (l.getD i default).2.length (AB (l.getD i default).2))→
   yj B N L ⟨(t7, .v (.one (.own c false (l.getD i default).2.length)))::(t6,vI (l.getD i default).1)::st.slots,(b,some (.gm K V E l (some ((l.getD i default).1, .own c false (l.getD i default).2.length))))::(c,some (.arr E 1 (l.getD i default).2.length (AB (l.getD i default).2)))::st.heap⟩ it kit b km l.length (seen.push i)
    (((a.put (some t5) (.tuple #[e.key,e.val])).put (some t6) e.key).put (some t7) e.val) w:=by
  intro p S2 s1 s2 hcu r2
  have hsp:=nU.split (S1:=fun q=>ft b q∧rb i≠some q) (S2:=S2) fr hif hob hcn' (fun _ h=>h.1) s1 s2 (rest p _ (fun _=>Iff.rfl) hcu) r2
  have eq:upd (aT st.heap) [(b,some (.gm K V E l (some ((l.getD i default).1, .own c false (l.getD i default).2.length)))),(c,some (.arr E 1 (l.getD i default).2.length (AB (l.getD i default).2)))]=aT ((b,some (.gm K V E l (some ((l.getD i default).1, .own c false (l.getD i default).2.length))))::(c,some (.arr E 1 (l.getD i default).2.length (AB (l.getD i default).2)))::st.heap):=by
   funext x;rw [zK];simp only [aT];rw [aF,aF]
  rw [eq]at hsp
  refine⟨⟨bG ρ c p,F,_,frn p,hsp,qG (fun t tv ht=> ?_) (by simp [Act.put]at sz1 ⊢;omega) hcu,dn.gr (grn p), ?_,⟨bb,bc,aR hρc _ _ hbm⟩,hF,fun x ob hx hf=> ?_⟩,ids,by simp [Act.put]at sz1 ⊢;exact sz1,bit,itx⟩
  ·obtain⟨u,hu,hr⟩:=hs t tv ht
   exact⟨u,hu,hr.gr (grn p)⟩
  ·rw [show bG ρ c p it=ρ it by simp [bG,Ne.symm hci]];exact hit
  ·by_cases hxc:x=c
   ·subst hxc
    rw [bB]at hf
    exact hK b _ hob (s1 _ hf)
   ·rw [d9 hxc]at hf
    by_cases hxb:x=b
    ·subst hxb
     rw [bB]at hf
     exact hK x _ hob hf.1
    ·rw [d9 hxb]at hf
     refine hK x ob ?_ hf
     simp only [aT]at hx ⊢
     rw [aF,if_neg (Ne.symm hxb),aF,if_neg (Ne.symm hxc)]at hx
     exact hx
 rcases x4 with⟨n0,hu0⟩|⟨q,bq,cq,z1,z2,z3,z4⟩
 ·exact done .nil (fun _=>False) (fun _ h=>h.elim) (fun _ _ h=>h) (.inr ⟨rfl,aC _ _,n0,hu0⟩) (.inl ⟨aC _ _,n0⟩)
 ·exact done (.blk q bq cq) (fun q'=>q'=q) (fun q' h=>h ▸ z2) (fun q' h1 h2=>h1.2 (by rw [z1,h2])) (.inl ⟨q,bq,cq,aC _ _,z3⟩) (.inr ⟨q,bq,cq,aC _ _,rfl,z4⟩)
theorem yj.start {a:Act} {w:World} (hc:Conc B N L st a w) {t1 t2 b it n1:Nat} {T K0 V0 K V E:TypeId} {l:List (Int × List Int)} {o1:Oper} {ops:Array Oper}
  (hn1:ops[n1]? =some o1) (e1:o1.op= .range T (.tmp t1)) (g1:o1.guard=none) (d1:o1.dst=some t2) (h2:t2<N)
  (hT:P.underlying T=some (.map K0 V0)) (hsl:get st.slots t1=some (.v (.one (.mp b)))) (hb:get st.heap b=some (some (.gm K V E l none))) (hit:get st.heap it=none) {Q:Exit→Act→World→Prop}
  (hQ: ∀kit km a' w',(l.map (·.1)).Nodup→yj B N L ⟨(t2,vP it 0)::st.slots,(it,none)::st.heap⟩ it kit b km l.length #[] a' w'→Q .normal a' w'):
  wpOpsIn (FW rd) 0 P ops Q [n1] a w:=by
 obtain⟨⟨ρ,F,fr,⟨ft,hi⟩,hs,dn⟩,ids,sz⟩:=hc
 obtain⟨v,hv,hvr⟩:=hs _ _ hsl
 have hvr':=hvr
 obtain⟨km,base,cap,hρ,rfl⟩:=hvr
 obtain⟨km',base',cap',es,rb,r1,r2,r3,r4,r5,r6,r7,r8⟩:=hi.obj b _ hb
 rw [hρ]at r1;cases r1
 have hitb:it≠b:=fun e=>by subst e;rw [hit]at hb;cases hb
 have hρit:ρ it=none:=hi.fresh it hit
 have hmb:=hi.blk b _ km hb r2
 have hev1:a.eval (.tmp t1)= .map (some km):=by simp [Act.eval,hv]
 rw [wpOpsIn_cons]
 let w1:World:=w.alloc (.mapIter (some km) es.size #[] es.size)
 refine iM (o:=o1) hn1 g1 (v:= .pointer (some ⟨w.heap.size,0,none⟩)) (w':=w1) ?_ ?_
 ·simp only [execOp,e1,hev1,Sem.run_bind,run_range_map w T K0 V0 km es es.size hT r3,Result.andThen_ok,Sem.run_pure];rfl
 rw [d1]
 have hsz1:w1.heap.size=w.heap.size+1:=by show(w.heap.push _).size=_;simp
 have hold: ∀k,k<w.heap.size→w1.heap[k]? =w.heap[k]? :=fun k hk=>heap_alloc_old w _ hk
 have hupd: ∀x p,ρ x=some p→bG ρ it (.blk w.heap.size 0 0) x=some p:=aR hρit
 have g:Gr ρ F w (bG ρ it (.blk w.heap.size 0 0)) F w1:=⟨hupd,fun _ h=>h,fun k hk=>hold k (fr.fz k hk).1⟩
 have hget: ∀x ob,aT ((it,none)::st.heap) x=some (some ob)→get st.heap x=some (some ob)∧x≠it:=by
  intro x ob hx
  unfold aT at hx
  rw [aF]at hx
  split at hx
  ·cases hx
  ·rename_i n1;exact⟨hx,Ne.symm n1⟩
 refine hQ w.heap.size km _ _ r8 ⟨⟨bG ρ it (.blk w.heap.size 0 0),F,ft,⟨fr.os,fr.tape,fr.output,by rw [hsz1];exact Nat.le_succ_of_le fr.size,fun k hk hn=>(hold k (Nat.lt_of_lt_of_le hk fr.size)).trans (fr.mem k hk hn),fun x p e=>hupd x p (fr.rho x p e),fun k hk=> ⟨by rw [hsz1];exact Nat.lt_succ_of_lt (fr.fz k hk).1,(fr.fz k hk).2⟩,fr.bf⟩,
  ⟨fun x ob hx=> ?_,fun x ob k hx hf=> ?_,fun x x' ob ob' k hx hx'=>hi.dis x x' ob ob' k (hget x ob hx).1 (hget x' ob' hx').1,fun x hx=> ?_,hi.gl.gr g⟩, ?_,dn.gr g,aC _ _,⟨base,cap,hupd _ _ hρ⟩, ?_,fun x ob hx hf=> ?_⟩,ids,by simp [Act.put,sz],fr.size,by rw [←r4];exact heap_alloc_new w _⟩
 ·exact(hi.obj x ob (hget x ob hx).1).keep g (fun _ h=>h) fun k hk=>hold k (hi.blk x ob k (hget x ob hx).1 hk).1
 ·obtain⟨y1,y2,y3⟩:=hi.blk x ob k (hget x ob hx).1 hf
  exact⟨by rw [hsz1];omega,y2,y3⟩
 ·unfold aT at hx
  rw [aF]at hx
  split at hx
  ·cases hx
  ·rename_i n1
   unfold bG;rw [if_neg (Ne.symm n1)];exact hi.fresh x hx
 ·refine qG (fun t tv ht=> ?_) (by omega) ?_
  ·obtain⟨u,hu,hr⟩:=hs t tv ht
   exact⟨u,hu,hr.gr g⟩
  ·exact⟨w.heap.size,0,0,aC _ _,rfl⟩
 ·exact fun hf=>by have:=(fr.fz _ hf).1;omega
 ·have:=(hi.blk x ob _ (hget x ob hx).1 hf).1;omega
theorem yj.imp {it kit b km n:Nat} {seen:Array Nat} {a:Act} {w:World} {st':St} (hne:it≠b) (h:yj B N L st it kit b km n seen a w) (hi: ∀B,j3 B N (it::b::L) st st'):yj B N L st' it kit b km n seen a w:=by
 obtain⟨B',h1,h2⟩:=h.base hne
 exact h2 _ _ _ (hi B' _ _ h1)
theorem Nh: ∀{l:List (Int × List Int)},(l.map (·.1)).Nodup→ ∀{x:Int × List Int},x∈l→rT x.1 l=x.2
 |[],_,_,h=>by cases h
 |(k,v)::l,hn,x,h=>by
  rw [List.map_cons,List.nodup_cons]at hn
  show(bif decide (x.1=k)then v else rT x.1 l)=_
  rcases List.mem_cons.1 h with rfl|h
  ·simp
  ·have:x.1≠k:=fun e=>hn.1 (List.mem_map.2 ⟨x,h,e⟩)
   rw [decide_eq_false this]
   exact Nh hn.2 h
theorem KC {σ ρ':Type} (S:σ→St) (st1:St) {ops1:Array Oper} {pre:List Nat} {n1:Nat} (hl1:List.range ops1.size=pre++[n1])
  (hpre: ∀Q l2,(∀a w,Conc B N L st1 a w→wpOpsIn (FW rd) 0 P ops1 Q l2 a w)→ ∀a w,Conc B N L st a w→wpOpsIn (FW rd) 0 P ops1 Q (pre++l2) a w) {s0:σ} {r:Ex σ ρ'} {l:List (Int × List Int)} {K V E:TypeId} (b it c:Nat) (p:Int × List Int→Bool) (mb:Int × List Int→σ→Option (dG σ (Ex σ ρ'))) (h:Zu l p mb s0=some r) (hno: ∀x,p x=false→ ∀s,mb x s=some (.next s))
  {t1 t2 t3 t4 t5 t6 t7 X Y id1 id2 id3:Nat} {T K0 V0:TypeId} {o1 o2 o3 p0 p1 p2:Oper} {ops:Array Oper} (lops:List Nat) {BODY:Code} {Q:Exit→St→Prop}
  (hsl:get st1.slots t1=some (.v (.one (.mp b)))) (hb:get st1.heap b=some (some (.gm K V E l none))) (hit:get st1.heap it=none) (hci:c≠it)
  (himp: ∀B,j3 B N (it::b::L) ⟨(t2,vP it 0)::st1.slots,(it,none)::st1.heap⟩ (S s0))
  (hS: ∀s,get (S s).slots t2=some (vP it 0)∧get (S s).slots t3=none∧get (S s).slots t5=none∧get (S s).heap b=some (some (.gm K V E l none))∧get (S s).heap c=none)
  (hbody: ∀B x s o,rT x.1 l=x.2→mb x s=some o→ZQ rd P B N (it::b::L) ops lops (fun st1=>lY rd P B N (it::b::L) BODY (fun e st'=>match o with| .next s'=>(e= .normal∨e= .exit Y)∧st'=S s'| .done r0=>(e≠ .normal∧e≠ .exit X∧e≠ .exit Y)∧(r0=r→Q e st')) st1)
   ⟨(t7, .v (.one (.own c false x.2.length)))::(t6,vI x.1)::(t4,vB true)::(S s).slots,(b,some (.gm K V E l (some (x.1, .own c false x.2.length))))::(c,some (.arr E 1 x.2.length (AB x.2)))::(S s).heap⟩)
  (hend: ∀s,r= .brk s→Q .normal ⟨(t4,vB false)::(S s).slots,(S s).heap⟩)
  (hT:P.underlying T=some (.map K0 V0))
  (hops:(ops1[n1]? =some o1∧o1.op= .range T (.tmp t1)∧o1.guard=none∧o1.dst=some t2)∧(o2.op= .next (.tmp t2) false∧o2.guard=none∧o2.dst=some t3)∧(o3.op= .extract (.tmp t3) 0∧o3.guard=none∧o3.dst=some t4)∧
   (p0.op= .entry (.tmp t2)∧p0.guard=none∧p0.dst=some t5)∧(p1.op= .extract (.tmp t5) 0∧p1.guard=none∧p1.dst=some t6)∧(p2.op= .extract (.tmp t5) 1∧p2.guard=none∧p2.dst=some t7)∧(List.range ops.size=0::1::2::lops∧ops[0]? =some p0∧ops[1]? =some p1∧ops[2]? =some p2))
  (hlt:(Tk N t1 t2 t3 t4 t5 t6 t7)=true) (n54:t4≠t5):
  lY rd P B N L (.seq (.region id1 ops1 false) (.block X (.loop (.seq (.region id2 #[o2,o3] false) (.seq (.cond (.tmp t4) .skip (.exit X)) (.block Y (.seq (.region id3 ops false) BODY))))))) Q st:=by
 intro a w hc
 obtain⟨⟨b0,b1,b2,b3⟩,⟨c1,c2,c3⟩,⟨d1,d2,d3⟩,⟨f1,f2,f3⟩,⟨g1,g2,g3⟩,⟨i1,i2,i3⟩,hl,q0,q1,q2⟩:=hops
 obtain⟨⟨l1,l2,l3,l4,l5,l6,l7⟩,n56,n32,n42⟩:=NK hlt
 have hitb:it≠b:=fun e=>by subst e;rw [hit]at hb;cases hb
 refine wpIn_seq (wpIn_region ?_)
 rw [hl1]
 refine hpre _ [n1] (fun a1 w1 hc1=>yj.start hc1 b0 b1 b2 b3 l2 hT hsl hb hit ?_) a w hc
 intro kit km a' w' hnd0 hI
 have hI0:=hI.imp hitb himp
 let Inv:List Nat→σ→Prop:=fun left s=>((∀i∈left,p (l.getD i default)=false)∧r= .brk s)∨
  ∃i0,i0∈left∧p (l.getD i0 default)=true∧(∀i∈left,p (l.getD i default)=true→i=i0)∧((∃s',mb (l.getD i0 default) s=some (.next s')∧r= .brk s')∨mb (l.getD i0 default) s=some (.done r))
 have hinv0:Inv (List.range l.length) s0:=by
  unfold Zu at h
  split at h
  ·rename_i hf
   left
   cases h
   refine⟨fun i hi=> ?_,rfl⟩
   have hi:=List.mem_range.1 hi
   have hm:l.getD i default∈l:=by simp [List.getD_eq_getElem?_getD,hi]
   cases hp:p (l.getD i default)with
   |false=>rfl
   |true=>exact absurd (List.mem_filter.2 ⟨hm,hp⟩) (by rw [hf];simp)
  ·rename_i x hf
   right
   have hx:x∈l.filter p:=by rw [hf];simp
   obtain⟨hxl,hxp⟩:=List.mem_filter.1 hx
   obtain⟨i0,hi0,e0⟩:=List.mem_iff_getElem.1 hxl
   have e0:l.getD i0 default=x:=by simp [List.getD_eq_getElem?_getD,hi0,e0]
   refine⟨i0,List.mem_range.2 hi0,by rw [e0];exact hxp,fun i hi hp=> ?_, ?_⟩
   ·have hi:=List.mem_range.1 hi
    have hm:l.getD i default∈l:=by simp [List.getD_eq_getElem?_getD,hi]
    have:l.getD i default∈l.filter p:=List.mem_filter.2 ⟨hm,hp⟩
    rw [hf,List.mem_singleton]at this
    exact qH hnd0 hi hi0 (by rw [this,e0])
   ·rw [e0]
    split at h
    ·rename_i s' hs;cases h;exact .inl ⟨s',hs,rfl⟩
    ·rename_i r0 hs;cases h;exact .inr hs
    ·cases h
  ·cases h
 refine wpIn_block ?_
 refine wpIn_loop_ghost (fun k a w=> ∃(seen:Array Nat) (left:List Nat) (s:σ),left.length=k∧left.Nodup∧(∀x,x∈left↔x<l.length∧x ∉ seen)∧Inv left s∧yj B N L (S s) it kit b km l.length seen a w) l.length
  ⟨#[],List.range l.length,s0,by simp,List.nodup_range,fun x=>by simp,hinv0,hI0⟩ ?_
 rintro k a2 w2 ⟨seen,left,s,hlen,hnd,hmem,hinv,hI⟩
 obtain⟨S2,S3,S5,Sb,Sc⟩:=hS s
 obtain⟨es,hes⟩:=hI.es Sb
 refine wpIn_seq (hI.next hes c1 c2 c3 d1 d2 d3 l3 l4 S2 S3 (fun hall a3 w3 hI3=> ?_) fun i hi hns a3 w3 hI3=> ?_)
 ·have hleft:left=[]:=by
   rw [List.eq_nil_iff_forall_not_mem]
   intro x hx
   have:=(hmem x).1 hx
   exact this.2 (hall x this.1)
  subst hleft
  have hsr:r= .brk s:=by
   rcases hinv with⟨_,e⟩|⟨i0,hi0,_⟩
   ·exact e
   ·cases hi0
  refine wpIn_seq (wpIn_cond_split (t:=false) ?_ (fun e=>by cases e) fun _=>wpIn_exit ?_)
  ·obtain⟨ρ,F,_,_,hs,_⟩:=hI3.QG.ex
   obtain⟨v,hv,hr⟩:=hs t4 (vB false) (by rw [aF,if_pos rfl])
   have:v= .bool false:=hr
   subst this
   simp [Act.eval,hv]
  ·simp only [Exit.then,Exit.inBlock,if_true]
   exact⟨_,hend s hsr,hI3.QG⟩
 ·have hil:i∈left:=(hmem i).2 ⟨hi,hns⟩
  cases k with
  |zero=>rw [List.length_eq_zero_iff]at hlen;subst hlen;cases hil
  |succ k=>
   obtain⟨o,hmo,hstep⟩: ∃o,mb (l.getD i default) s=some o∧(∀s',o= .next s'→Inv (left.erase i) s')∧(∀r0,o= .done r0→r0=r):=by
    rcases hinv with⟨h1,h2⟩|⟨i0,h1,h2,h3,h4⟩
    ·refine⟨.next s,hno _ (h1 i hil) s,fun s' e=> ?_,fun r0 e=>by cases e⟩
     cases e
     exact .inl ⟨fun j hj=>h1 j (List.mem_of_mem_erase hj),h2⟩
    ·by_cases hii:i=i0
     ·subst hii
      rcases h4 with⟨s',e1,e2⟩|e1
      ·refine⟨_,e1,fun s'' e=> ?_,fun r0 e=>by cases e⟩
       cases e
       refine .inl ⟨fun j hj=> ?_,e2⟩
       rw [hnd.mem_erase_iff]at hj
       cases hpj:p (l.getD j default)with
       |false=>rfl
       |true=>exact absurd (h3 j hj.2 hpj) hj.1
      ·exact⟨_,e1,fun s'' e=>(by cases e),fun r0 e=>(by cases e;rfl)⟩
     ·have hpi:p (l.getD i default)=false:=by
       cases hpi:p (l.getD i default)with
       |false=>rfl
       |true=>exact absurd (h3 i hil hpi) hii
      refine⟨.next s,hno _ hpi s,fun s' e=> ?_,fun r0 e=>by cases e⟩
      cases e
      exact .inr ⟨i0,hnd.mem_erase_iff.2 ⟨Ne.symm hii,h1⟩,h2,fun j hj=>h3 j (List.mem_of_mem_erase hj),h4⟩
   refine wpIn_seq (wpIn_cond_split (t:=true) ?_ (fun _=>wpIn_skip ?_) fun e=>by cases e)
   ·obtain⟨ρ,F,_,_,hs,_⟩:=hI3.QG.ex
    obtain⟨v,hv,hr⟩:=hs t4 (vB true) (by rw [aF,if_pos rfl])
    have:v= .bool true:=hr
    subst this
    simp [Act.eval,hv]
   ·refine wpIn_block (wpIn_seq (hI3.entry hi Sb Sc hci hl q0 q1 q2 f1 f2 f3 g1 g2 g3 i1 i2 i3 l5 l6 l7 n56 ?_ ?_ fun a4 w4 hI4=> ?_))
    ·rw [aF,if_neg n42];exact S2
    ·rw [aF,if_neg n54];exact S5
    ·obtain⟨B4,hc4,hback4⟩:=hI4.base hitb
     refine hbody B4 _ s o (Nh hnd0 (by simp [List.getD_eq_getElem?_getD,hi])) hmo _ (fun st1 a6 w6 hq6 hc6=>wpIn_mono (hq6 a6 w6 hc6) ?_) a4 w4 hc4
     rintro e a5 w5 ⟨st5,he,hc5⟩
     have hI5:=hback4 _ _ _ hc5
     cases o with
     |next s'=>
      obtain⟨he,rfl⟩:=he
      have hfin: ∃k',k'<k+1∧ ∃(seen:Array Nat) (left:List Nat) (s:σ),left.length=k'∧left.Nodup∧(∀x,x∈left↔x<l.length∧x ∉ seen)∧Inv left s∧yj B N L (S s) it kit b km l.length seen a5 w5:=by
       refine⟨k,Nat.lt_succ_self k,seen.push i,left.erase i,s', ?_,hnd.erase i,fun x=> ?_,hstep.1 s' rfl,hI5⟩
       ·rw [List.length_erase_of_mem hil,hlen];rfl
       ·rw [hnd.mem_erase_iff,hmem,Array.mem_push]
        constructor
        ·rintro ⟨q1,q2,q3⟩;exact⟨q2,fun hh=>hh.elim q3 q1⟩
        ·rintro ⟨q1,q2⟩;exact⟨fun e=>q2 (.inr e),q1,fun e=>q2 (.inl e)⟩
      rcases he with rfl|rfl
      ·exact hfin
      ·simp only [Exit.inBlock,if_true];exact hfin
     |done r0=>
      obtain⟨⟨n1,n2,n3⟩,hQ⟩:=he
      have hq: ∃s'',Q e s''∧Conc B N L s'' a5 w5:=⟨st5,hQ (hstep.2 r0 rfl),hI5.QG⟩
      cases e with
      |normal=>exact absurd rfl n1
      |exit z=>
       have z1:z≠X:=fun e=>n2 (by rw [e])
       have z2:z≠Y:=fun e=>n3 (by rw [e])
       simp only [Exit.inBlock,Exit.then,if_neg z2,if_neg z1]
       exact hq
      |_=>exact hq
end
structure PP where
 p:Prop
 h:p
structure PI where
 a:Prop
 b:Prop
 h:a→b
inductive Cs where
 |u (j:Nat)
 |k (j:Nat)
 |pf (x:PP)
 |dv (j:Nat) (x:PI)
 |dk (j:Nat) (x:PI)
 |m (js:List Nat) (a:List Prop) (b:Prop) (h:All a→b)
instance (n:Nat):OfNat Cs n:=⟨.u n⟩
inductive Ck where
 |p (x:Prop)
 |b (x:Bool)
 |n (x:Nat)
 |dv (x:DV)
 |tv (x:TV)
 |co (x:List Code)
 |ob (x:Option Ob)
 |st (x:St)
 |hp (x:List (Nat × Option Ob))
abbrev CP:=List (Ck × Ck)
def CP.ok:CP→Prop
 |[]=>True
 |p::l=>p.1=p.2∧CP.ok l
theorem CP.gH: ∀{l m:CP},CP.ok (l++m)↔CP.ok l∧CP.ok m
 |[],m=>by simp [CP.ok]
 |p::l,m=>by simp [CP.ok,CP.gH,and_assoc]
inductive Ri where
 |eb (j:Nat) (a b:Bool)
 |eg (g:List (Nat × Bool)) (j:Nat) (a b:Bool)
 |cs (g:List (Nat × Bool)) (l:List Prop)
 |nd (g:List (Nat × Bool))
 |ng (g:List (Nat × Bool))
def Ri.P (yb:Nat→Bool):Ri→List Prop
 | .eb _ a b=>[a=b]
 | .eg g _ a b=>Aq yb g [a=b]
 | .cs g l=>Aq yb g l
 | .nd g=>[gP yb g]
 | .ng g=>[¬ gP yb g]
structure Uy where
 its:List Ri
 ent:R6
 hd:List (Nat × Option Ob)
 ft:List Nat
section
variable (Fc:Cl→List SV→List (Nat × Option Ob)→TV→List (Nat × Option Ob)→Prop) (T:List (Nat × TI)) (ops:List Oper) (yb:Nat→Bool) (w:Nat→Bool→Bool) (an:Nat→mR) (fr:Nat→Nat) (N:Nat)
def LH (s:Slots) (o:Oper):Option (List (Nat × Bool) × List Ri):=
 match o.guard with
 |none=>some ([],[])
 |some (j,want)=>
  match ops[j]? with
  |some oj=>match oj.dst with
   |some d=>match s d with
    |some ⟨gj, .v (.one (.d (.bool b))),some j'⟩=>bif Nat.beq j j' then some ((j,want)::gj,[.eb j b (yb j)])else none
    |_=>none
   |none=>none
  |none=>none
def P5 (s:Slots) (g:List (Nat × Bool)) (c a b:Operand):Option (List Ri × TV):=
 match Mk s c,Mk s a,Mk s b with
 |some ⟨gc, .v (.one (.d (.bool bc))),some jc⟩,some ⟨ga, .v (.one (.d (.bool x))),_⟩,some ⟨gb, .v (.one (.d (.bool y))),_⟩=>
  bif yN gc g && yN ga ((jc,true)::g) && yN gb ((jc,false)::g)then some ([.eg g jc bc (yb jc)], .v (.one (.d (.bool (bif w jc bc then x else y)))))else none
 |_,_,_=>none
def Ns (i:Nat) (s:Slots) (h:Hp):Option Uy:=
 match ops[i]? with
 |none=>none
 |some o=>
  match LH ops yb s o with
  |none=>none
  |some (g,c0)=>
   bif FM N o.dst then
    match o.op with
    | .pick c a b=>match P5 yb w s g c a b with
     |some (cs,tv)=>some ⟨c0++cs,⟨g,tv,some i⟩,[],[]⟩
     |none=>none
    |_=>
     match an i with
     | .skip=>some ⟨c0++[.ng g],⟨g, .v (.one (.d (.bool false))),some i⟩,[],[]⟩
     |_=>
     match Jb s g o.op.operands.toList with
     |none=>none
     |some xs=>
      let ft:=foot (an i) (fr i) o.op xs
      match YU Fc T (fr i) (an i) o.op xs (ft.map h)with
      |none=>none
      |some E=>bif aN (E.hd.map (·.1)) ft then some ⟨c0++(.cs g E.conds::(bif CZ g||CZ E.hd then []else [.nd g])),⟨g,E.tv,some i⟩,E.hd,ft⟩else none
   else none
def runT:List Nat→RS→Option (List Ri × RS × List (Nat × zU))
 |[],r=>some ([],r,[])
 |i::l,r=>match Ns Fc T ops yb w an fr N i r.s r.h with
  |some c=>match runT l ⟨zT r.s ((ops[i]?).bind (·.dst)) c.ent,upd r.h c.hd⟩with
   |some (c',r2,inf)=>some (c.its++c',r2,(i,⟨c.ft,c.hd.map (·.1)⟩)::inf)
   |none=>none
  |none=>none
end
section
variable {Fc:Cl→List SV→List (Nat × Option Ob)→TV→List (Nat × Option Ob)→Prop} {T:List (Nat × TI)} {ops:List Oper} {yb:Nat→Bool} {an:Nat→mR} {fr:Nat→Nat} {N:Nat}
theorem KP {s:Slots} {o:Oper} {g:List (Nat × Bool)} {c:List Ri} (h:LH ops yb s o=some (g,c)):guardOf ops yb s o=some (g,c.flatMap (Ri.P yb)):=by
 unfold LH at h
 unfold guardOf
 split at h
 ·rename_i e;cases h;rw [e];rfl
 ·rename_i j want e
  rw [e]
  simp only
  split at h
  ·rename_i oj e1
   rw [e1]
   simp only
   split at h
   ·rename_i d e2
    rw [e2]
    simp only
    split at h
    ·rename_i gj b j' e3
     rw [e3]
     simp only
     cases hb:Nat.beq j j' with
     |false=>rw [hb]at h;cases h
     |true=>rw [hb]at h;cases h;rfl
    ·cases h
   ·cases h
  ·cases h
theorem MK {s:Slots} {g:List (Nat × Bool)} {x a b:Operand} {c:List Ri} {tv:TV} (h:P5 yb (fun j _=>yb j) s g x a b=some (c,tv)): ∃cs,Fa yb s g x a b=some (cs,tv)∧c.flatMap (Ri.P yb)=Aq yb g cs:=by
 unfold P5 at h
 unfold Fa
 split at h
 ·rename_i gc bc jc ga xx _ gb yy _ e1 e2 e3
  rw [e1,e2,e3]
  simp only
  cases hb:(yN gc g && yN ga ((jc,true)::g) && yN gb ((jc,false)::g))with
  |false=>rw [hb]at h;cases h
  |true=>rw [hb]at h;cases h;exact⟨_,rfl,by simp [Ri.P]⟩
 ·cases h
theorem Ma {i:Nat} {s:Slots} {h:Hp} {c:Uy} (hc:Ns Fc T ops yb (fun j _=>yb j) an fr N i s h=some c):core Fc T ops yb an fr N i s h=some ⟨c.its.flatMap (Ri.P yb),c.ent,c.hd,c.ft⟩:=by
 unfold Ns at hc
 unfold core
 split at hc
 ·cases hc
 ·rename_i o e
  rw [e]
  simp only
  split at hc
  ·cases hc
  ·rename_i g c0 e1
   rw [KP e1]
   simp only
   cases hd:FM N o.dst with
   |false=>rw [hd]at hc;cases hc
   |true=>
    rw [hd]at hc
    simp only [cond_true]at hc ⊢
    split at hc
    ·rename_i x a b e2
     rw [e2]
     simp only
     split at hc
     ·rename_i cs tv e3
      cases hc
      obtain⟨cs',h1,h2⟩:=MK e3
      rw [h1]
      simp [List.flatMap_append,h2]
     ·cases hc
    ·rename_i hnp
     split
     ·rename_i x a b e2;exact absurd e2 (hnp x a b)
     ·split at hc
      ·rename_i e3;cases hc;simp [List.flatMap_append,Ri.P,e3]
      ·rename_i hns
       split
       ·rename_i e3;exact absurd e3 hns
       ·split at hc
        ·cases hc
        ·rename_i xs e4
         rw [e4]
         simp only at hc ⊢
         split at hc
         ·cases hc
         ·rename_i E e5
          rw [e5]
          simp only
          cases hs:aN (E.hd.map (·.1)) (foot (an i) (fr i) o.op xs)with
          |false=>rw [hs]at hc;cases hc
          |true=>
           rw [hs]at hc
           simp only [cond_true]at hc ⊢
           cases hc
           cases hg:(CZ g||CZ E.hd)<;>simp [List.flatMap_append,Ri.P]
theorem Dp: ∀{l:List Nat} {r r':RS} {its:List Ri} {inf:List (Nat × zU)},runT Fc T ops yb (fun j _=>yb j) an fr N l r=some (its,r',inf)→Ec Fc T ops yb an fr N l r=some (its.flatMap (Ri.P yb),r',inf)
 |[],r,r',its,inf,h=>by cases h;rfl
 |i::l,r,r',its,inf,h=>by
  unfold runT at h
  unfold Ec
  split at h
  ·rename_i c e
   rw [Ma e]
   simp only
   split at h
   ·rename_i c' r2 inf' e2
    cases h
    rw [Dp e2]
    simp [List.flatMap_append]
   ·cases h
  ·cases h
theorem tC: ∀{l:List Nat} {r r':RS} {cs:List Prop} {inf:List (Nat × zU)},Ec Fc T ops yb an fr N l r=some (cs,r',inf)→run Fc T ops yb an fr N l r=some (cs,r')
 |[],r,r',cs,inf,h=>by cases h;rfl
 |i::l,r,r',cs,inf,h=>by
  unfold Ec at h
  unfold run step
  split at h
  ·rename_i c e
   try rw [e]
   simp only
   split at h
   ·rename_i c' r2 inf' e2
    cases h
    first|rw [tC e2]|simp only [tC e2]
   ·cases h
  ·cases h
end
def Gx (f:Fin) (h:Hp):CV→List (Nat × Nat)
 | .own b _ len=>bif iG b f.frz then(match h b with
   |some (some (.arr _ _ len' _))=>[(len,len')]
   |some (some (.rows _ _ len' _ none))=>[(len,len')]
   |_=>[])else []
 | .fn _ _ n cap=>(List.range n).flatMap fun j=>Gx f h (cap j)
 |_=>[]
def Rs (f:Fin) (h:Hp) (s:SV):List (Nat × Nat):=(cellsOf s).flatMap (Gx f h)
def SF (f:Fin) (h:Hp):TV→List (Nat × Nat)
 | .v s=>Rs f h s
 | .dL l=>l.flatMap (Rs f h)
def Xb (f:Fin) (h:Hp):Ob→List (Nat × Nat)
 | .cells _ cs=>cs.flatMap (Gx f h)
 | .rows _ _ _ _ (some (_,_,c))=>Gx f h c
 | .gm _ _ _ _ (some (_,c))=>Gx f h c
 | .loop _ _ sl=>sl.flatMap fun p=>SF f h p.2
 |_=>[]
def Tx (f:Fin) (h:Hp):List (Nat × Nat)→List (Nat × Nat)
 |[]=>[]
 |(b,_)::l=>(match h b with
  |some (some ob)=>bif iG b f.frz then []else Xb f h ob
  |_=>[])++Tx f h l
def Da (l:List (Nat × Nat)):Prop:= ∀e∈l,e.1=e.2
theorem Da.app {l m:List (Nat × Nat)}:Da (l++m)↔Da l∧Da m:=by simp [Da,or_imp,forall_and]
section
variable {f:Fin} {h:Hp}
theorem Ld {α:Type} {g:α→Option (List Prop × CV)} {e:α→List (Nat × Nat)} (hg: ∀x p c,g x=some (p,c)→Da (e x)→All p): ∀{l:List α} {p:List Prop} {cs:List CV},JB (l.map g)=some (p,cs)→Da (l.flatMap e)→All p
 |[],p,cs,hs,_=>by cases hs;trivial
 |x::l,p,cs,hs,he=>by
  rw [List.flatMap_cons,Da.app]at he
  rw [List.map_cons]at hs
  cases hx:g x with
  |none=>rw [hx]at hs;cases hs
  |some y=>
   obtain⟨q,c⟩:=y
   rw [hx]at hs
   simp only [JB]at hs
   split at hs
   ·rename_i q' cs' e2
    cases hs
    rw [bA]
    exact⟨hg x q c hx he.1,Ld hg e2 he.2⟩
   ·cases hs
theorem BS: ∀{c c':CV} {p:List Prop},uI f h c=some (p,c')→Da (Gx f h c)→All p:=by
 intro c
 induction c with
 |d x=>intro c' p hf _;cases hf;trivial
 |ptr b off=>
  intro c' p hf _
  unfold uI at hf
  cases hb:iG b f.frz with
  |true=>
   simp only [hb,cond_true]at hf
   split at hf
   ·split at hf
    ·cases hf;trivial
    ·cases hf
   ·cases hf;trivial
   ·cases hf
  |false=>
   simp only [hb,cond_false]at hf
   split at hf
   ·cases hf;trivial
   ·cases hf
 |opt b e i off=>
  intro c' p hf _
  unfold uI at hf
  cases hb:iG b f.frz with
  |true=>simp [hb]at hf
  |false=>
   simp only [hb,cond_false]at hf
   split at hf
   ·cases hf;trivial
   ·cases hf
 |own b nn len=>
  intro c' p hf he
  unfold uI at hf
  unfold Gx at he
  cases hb:iG b f.frz with
  |true=>
   simp only [hb,cond_true]at hf he
   split at hf
   ·rename_i e1
    rw [e1]at he
    cases hf
    exact⟨he (_,_) (List.mem_singleton.2 rfl),trivial⟩
   ·rename_i e1
    rw [e1]at he
    cases hf
    exact⟨he (_,_) (List.mem_singleton.2 rfl),trivial⟩
   ·cases hf
  |false=>
   simp only [hb,cond_false]at hf
   split at hf
   ·cases hf;trivial
   ·cases hf
 |mp b=>
  intro c' p hf _
  unfold uI at hf
  cases hb:iG b f.frz with
  |true=>simp [hb]at hf
  |false=>
   simp only [hb,cond_false]at hf
   split at hf
   ·cases hf;trivial
   ·cases hf
 |yl b=>
  intro c' p hf _
  unfold uI at hf
  cases hb:iG b f.frz with
  |true=>simp [hb]at hf
  |false=>
   simp only [hb,cond_false]at hf
   split at hf
   ·cases hf;trivial
   ·cases hf
 |fn g nf n cap ih=>
  intro c' p hf he
  unfold uI at hf
  unfold Gx at he
  split at hf
  ·rename_i q cs e1
   cases hf
   exact Ld (g:=fun j=>uI f h (cap j)) (e:=fun j=>Gx f h (cap j)) (fun j q c hq hqe=>ih j hq hqe) e1 he
  ·cases hf
theorem EU: ∀{cs cs':List CV} {p:List Prop},La f h cs=some (p,cs')→Da (cs.flatMap (Gx f h))→All p
 |[],_,p,hf,_=>by cases hf;trivial
 |c::cs,_,p,hf,he=>by
  rw [List.flatMap_cons,Da.app]at he
  unfold La at hf
  split at hf
  ·rename_i e1 e2;cases hf;rw [bA];exact⟨BS e1 he.1,EU e2 he.2⟩
  ·cases hf
theorem JU {s s':SV} {p:List Prop} (hf:Kr f h s=some (p,s')) (he:Da (Rs f h s)):All p:=by
 cases s with
 |one c=>
  unfold Kr at hf
  simp only at hf
  split at hf
  ·rename_i e;cases hf;exact BS e (by simpa [Rs,cellsOf]using he)
  ·cases hf
 |agg cs=>
  unfold Kr at hf
  simp only at hf
  split at hf
  ·rename_i e;cases hf;exact EU e he
  ·cases hf
theorem HV: ∀{cs cs':List SV} {p:List Prop},Cz f h cs=some (p,cs')→Da (cs.flatMap (Rs f h))→All p
 |[],_,p,hf,_=>by cases hf;trivial
 |c::cs,_,p,hf,he=>by
  rw [List.flatMap_cons,Da.app]at he
  unfold Cz at hf
  split at hf
  ·rename_i e1 e2;cases hf;rw [bA];exact⟨JU e1 he.1,HV e2 he.2⟩
  ·cases hf
theorem Kv {s s':TV} {p:List Prop} (hf:EI f h s=some (p,s')) (he:Da (SF f h s)):All p:=by
 cases s with
 |v c=>
  unfold EI at hf
  simp only at hf
  split at hf
  ·rename_i e;cases hf;exact JU e he
  ·cases hf
 |dL cs=>
  unfold EI at hf
  simp only at hf
  split at hf
  ·rename_i e;cases hf;exact HV e he
  ·cases hf
theorem Ik: ∀{cs cs':List (Nat × TV)} {p:List Prop},FJ f h cs=some (p,cs')→Da (cs.flatMap fun p=>SF f h p.2)→All p
 |[],_,p,hf,_=>by cases hf;trivial
 |(t,c)::cs,_,p,hf,he=>by
  rw [List.flatMap_cons,Da.app]at he
  unfold FJ at hf
  split at hf
  ·rename_i e1 e2;cases hf;rw [bA];exact⟨Kv e1 he.1,Ik e2 he.2⟩
  ·cases hf
theorem Qo {o o':Ob} {p:List Prop} (hf:qQ f h o=some (p,o')) (he:Da (Xb f h o)):All p:=by
 unfold qQ at hf
 split at hf
 ·split at hf
  ·rename_i e;cases hf;exact EU e he
  ·cases hf
 ·cases hf;trivial
 ·cases hf;trivial
 ·cases hf;trivial
 ·cases hf;trivial
 ·split at hf
  ·rename_i e;cases hf;exact BS e he
  ·cases hf
 ·rename_i m
  revert hf
  generalize (m.ms.all _)=b
  cases b with
  |true=>intro hf;cases hf;trivial
  |false=>intro hf;cases hf
 ·split at hf
  ·rename_i e;cases hf;exact Ik e he
  ·cases hf
 ·cases hf;trivial
 ·split at hf
  ·rename_i e;cases hf;exact BS e he
  ·cases hf
 ·cases hf;trivial
 ·rename_i b l e
  cases hb:iG b f.frz with
  |true=>simp [hb]at hf
  |false=>
   simp only [hb,cond_false]at hf
   split at hf
   ·cases hf;trivial
   ·cases hf
theorem BL: ∀{l:List (Nat × Nat)} {p:List Prop} {m:List (Nat × Option Ob)},GH f h l=some (p,m)→Da (Tx f h l)→All p
 |[],p,m,hf,_=>by cases hf;trivial
 |(b,b')::l,p,m,hf,he=>by
  unfold Tx at he
  rw [Da.app]at he
  unfold GH at hf
  split at hf
  ·rename_i e1 e2;cases hf;exact BL e2 he.2
  ·rename_i ob q m' e1 e2
   rw [e1]at he
   cases hb:iG b f.frz with
   |true=>simp only [hb,cond_true]at hf;cases hf;exact BL e2 he.2
   |false=>
    simp only [hb,cond_false]at hf he
    split at hf
    ·rename_i e3;cases hf;rw [bA];exact⟨Qo e3 he.1,BL e2 he.2⟩
    ·cases hf
  ·cases hf
def Lh (f:Fin) (h:Hp) (s:Slots):List Nat→List (Nat × Nat) × List (Nat × TV)
 |[]=>([],[])
 |t::ts=>match s t with
  |some ⟨[],tv,_⟩=>match EI f h tv with
   |some (_,tv')=>match Lh f h s ts with|(e,l)=>(SF f h tv++e,(t,tv')::l)
   |none=>Lh f h s ts
  |_=>Lh f h s ts
theorem zF {s:Slots}: ∀{ts:List Nat} {e:List (Nat × Nat)} {l:List (Nat × TV)},Lh f h s ts=(e,l)→Da e→ ∃ts' p,KQ f h s ts'=some (p,l)∧All p
 |[],e,l,ha,_=>by cases ha;exact⟨[],[],rfl,trivial⟩
 |t::ts,e,l,ha,he=>by
  unfold Lh at ha
  split at ha
  ·rename_i tv src e1
   split at ha
   ·rename_i p tv' e2
    cases hr:Lh f h s ts with
    |mk e' l'=>
     rw [hr]at ha
     cases ha
     rw [Da.app]at he
     obtain⟨ts',q,h1,h2⟩:=zF hr he.2
     refine⟨t::ts',p++q, ?_,bA.2 ⟨Kv e2 he.1,h2⟩⟩
     unfold KQ
     rw [e1,h1]
     simp only [e2]
   ·exact zF ha he
  ·exact zF ha he
def Ll (L:List Nat) (fz sk:List Nat) (ren:List (Nat × Nat)) (r:RS):Option (List (Nat × Nat) × St):=
 bif FB L ⟨fz,ren⟩then
  match GH ⟨fz,ren⟩ r.h ren with
  |some (_,hp)=>match Lh ⟨fz,ren⟩ r.h r.s sk with|(e,sl)=>some (e++Tx ⟨fz,ren⟩ r.h ren,⟨sl,hp⟩)
  |none=>none
 else none
theorem qO {L fz sk:List Nat} {ren:List (Nat × Nat)} {r:RS} {e:List (Nat × Nat)} {st:St} (ha:Ll L fz sk ren r=some (e,st)) (he:Da e) (cs:List Prop) (hcs:All cs): ∃ts cs',finish L ⟨fz,ren⟩ ts cs r=some (cs',st)∧All cs':=by
 unfold Ll at ha
 cases hb:FB L ⟨fz,ren⟩with
 |false=>rw [hb]at ha;cases ha
 |true=>
  rw [hb]at ha
  simp only [cond_true]at ha
  split at ha
  ·rename_i q hp e1
   cases hr:Lh ⟨fz,ren⟩ r.h r.s sk with
   |mk e' sl=>
    rw [hr]at ha
    cases ha
    rw [Da.app]at he
    obtain⟨ts,p,h1,h2⟩:=zF hr he.1
    refine⟨ts,cs++(p++q), ?_, ?_⟩
    ·unfold finish
     rw [hb]
     simp only [cond_true,h1,e1]
    ·rw [bA,bA]
     exact⟨hcs,h2,BL e1 he.2⟩
  ·cases ha
end
def okO (f:Fin) (h:Hp) (b:Nat):Bool:=match h b with
 |some (some ob)=>bif iG b f.frz then true else(match qQ f h ob with|some _=>true|none=>false)
 |some none=>true
 |none=>false
def UI (fz:List Nat) (h:Hp):Nat→List Nat→List Nat
 |0,ks=>ks
 |n+1,ks=>(fun ks'=>bif Nat.beq ks'.length ks.length then ks else UI fz h n ks') (ks.filter (okO ⟨fz,ks.map fun b=>(b,b)⟩ h))
def OZ (L fz sk ks:List Nat) (r:RS):Option (List (Nat × Nat) × St):=
 match Ll L fz sk (ks.map fun b=>(b,b)) r with
 |some x=>some x
 |none=>Ll L fz sk ((UI fz r.h 30 ks).map fun b=>(b,b)) r
theorem CK {L fz sk ks:List Nat} {r:RS} {e:List (Nat × Nat)} {st:St} (ha:OZ L fz sk ks r=some (e,st)): ∃ren,Ll L fz sk ren r=some (e,st):=by
 unfold OZ at ha
 split at ha
 ·rename_i x h;cases ha;exact⟨_,h⟩
 ·exact⟨_,ha⟩
structure RX where
 an:List (Nat × mR):=[]
 fr:List (Nat × Nat):=[]
 ov:List (Nat × Bool × Nat):=[]
 sk:List Nat:=[]
 fz:List Nat:=[]
 ts:List Nat:=[]
 hs:List Nat:=[]
def Gl (x:RX) (an:List (Nat × mR)):Nat→mR:=fun i=>bif iG i x.sk then .skip else match get x.an i with|some a=>a|none=>Z9 an i
def TN (j:Nat):List Ri→Bool
 |[]=>false
 | .eb i a _::l=>bif Nat.beq i j then a else TN j l
 | .eg _ i a _::l=>bif Nat.beq i j then a else TN j l
 |_::l=>TN j l
def YQ (ov:List (Nat × Bool × Nat)) (l:Option (List Ri × RS × List (Nat × zU))):Nat→Bool:=fun j=>
 match get ov j with
 |some (v,_)=>v
 |none=>match l with|some (its,_)=>TN j its|none=>false
def Yq (ov:List (Nat × Bool × Nat)) (j:Nat) (b:Bool):Bool:=match get ov j with|some (v,_)=>v|none=>b
def Aj:List Nat→List Nat→List Nat
 |[],acc=>acc
 |x::l,acc=>bif iG x acc then Aj l acc else Aj l (x::acc)
def dstsOf:List Oper→List Nat
 |[]=>[]
 |o::l=>match o.dst with|some d=>d::dstsOf l|none=>dstsOf l
def Ro:List (Nat × zU)→List Nat
 |[]=>[]
 |(_,i)::l=>i.wr++Ro l
structure RR where
 its:List Ri
 ok:Bool
 yb:Nat→Bool
 eq:List (Nat × Nat)
 st:St
section
variable (Fc:Cl→List SV→List (Nat × Option Ob)→TV→List (Nat × Option Ob)→Prop) (T:List (Nat × TI)) (ops:Array Oper) (dr:Bool) (N:Nat) (L:List Nat)
def UQ (x:RX) (st:St) (yb:Nat→Bool) (l:Option (List Ri × RS × List (Nat × zU))):Option RR:=
 match l with
 |some (its,r,inf)=>
  match OZ L x.fz (match x.ts with|[]=>Aj (dstsOf ops.toList++nV st.slots) []|ts=>ts) (match x.hs with|[]=>Aj (Ro inf++nV st.heap) []|hs=>hs) r with
  |some (e,st')=>some ⟨its,(bif dr then(Du ops.toList (fun i=>match get (Zj ops) i with|some l=>l|none=>[]) ops.size && om ops.toList (FL inf) (fun i=>match get (Zj ops) i with|some l=>l|none=>[]) ops.size)else true),yb,e,st'⟩
  |none=>none
 |none=>none
def Ui (x:RX) (an:List (Nat × mR)) (st:St):Option RR:=
 let yb:=YQ x.ov (runT Fc T ops.toList (fun _=>false) (Yq x.ov) (Gl x an) (PS x.fr) N (List.range ops.size) (vC st))
 UQ ops dr L x st yb (runT Fc T ops.toList yb (fun j _=>yb j) (Gl x an) (PS x.fr) N (List.range ops.size) (vC st))
end
def XJ (Fc:Cl→List SV→List (Nat × Option Ob)→TV→List (Nat × Option Ob)→Prop) (T:List (Nat × TI)) (ops:List Oper) (yb:Nat→Bool) (w:Nat→Bool→Bool) (an:Nat→mR) (fr:Nat→Nat) (N:Nat):List Nat→RS→Nat
 |[],_=>999
 |i::l,r=>match Ns Fc T ops yb w an fr N i r.s r.h with
  |some c=>XJ Fc T ops yb w an fr N l ⟨zT r.s ((ops[i]?).bind (·.dst)) c.ent,upd r.h c.hd⟩
  |none=>i
section
variable {rd:Option Nat} {P:Program} {B:Base} {N:Nat} {L:List Nat} {T:List (Nat × TI)} {Q:Exit→St→Prop} {st st':St}
theorem Qr (hT:mI P T) (hm:P.follows .mixedOrders=true) {id:Nat} {ops:Array Oper} {dr:Bool} {x:RX} {an:List (Nat × mR)} {R:RR} (he:Ui (CF P) T ops dr N L x an st=some R) (hok:R.ok=true) (heq:Da R.eq)
  (hc: ∀it∈R.its,All (it.P R.yb)) (hQ:Q .normal R.st):lY rd P B N L (.region id ops dr) Q st:=by
 unfold Ui at he
 simp only at he
 generalize YQ x.ov (runT (CF P) T ops.toList (fun _=>false) (Yq x.ov) (Gl x an) (PS x.fr) N (List.range ops.size) (vC st))=yb at he
 unfold UQ at he
 split at he
 ·rename_i its r inf hrun
  split at he
  ·rename_i e st1 hfin
   cases he
   simp only at hok heq hc hQ
   have hall:All (its.flatMap (Ri.P yb)):=by
    clear hrun hfin hQ
    induction its with
    |nil=>trivial
    |cons i l ih=>rw [List.flatMap_cons,bA];exact⟨hc i (by simp),ih fun j hj=>hc j (by simp [hj])⟩
   have hI:=Dp hrun
   obtain⟨ren,hfin⟩:=CK hfin
   obtain⟨ts,cs',hf,hcs⟩:=qO hfin heq _ hall
   cases dr with
   |false=>
    refine FP hT {yb:=yb,an:=Gl x an,fr:=PS x.fr,fin:=⟨x.fz,ren⟩,ts:=ts} (cs:=cs') ?_ hcs hQ
    unfold NJ
    simp only
    rw [tC hI]
    exact hf
   |true=>
    refine DU hT hm {yb:=yb,an:=Gl x an,fr:=PS x.fr,fin:=⟨x.fz,ren⟩,ts:=ts} (Zj ops) (cs:=cs') ?_ hcs hQ
    unfold V4
    simp only
    rw [hI]
    simp only
    simp only [cond_true]at hok
    exact(congrArg (fun b:Bool=>bif b then finish L ⟨x.fz,ren⟩ ts (its.flatMap (Ri.P yb)) r else none) hok).trans hf
  ·cases he
 ·cases he
end
section
variable (Fc:Cl→List SV→List (Nat × Option Ob)→TV→List (Nat × Option Ob)→Prop) (T:List (Nat × TI)) (ops:Array Oper) (N:Nat) (L:List Nat)
def M0 (l:List Nat) (x:RX) (an:List (Nat × mR)) (st:St):Option RR:=
 let yb:=YQ x.ov (runT Fc T ops.toList (fun _=>false) (Yq x.ov) (Gl x an) (PS x.fr) N l (vC st))
 match runT Fc T ops.toList yb (fun j _=>yb j) (Gl x an) (PS x.fr) N l (vC st)with
 |some (its,r,inf)=>
  match OZ L x.fz (Aj (dstsOf (l.filterMap fun i=>ops.toList[i]?)++nV st.slots) []) (Aj (Ro inf++nV st.heap) []) r with
  |some (e,st')=>some ⟨its,true,yb,e,st'⟩
  |none=>none
 |none=>none
end
section
variable {P:Program} {N:Nat} {L:List Nat} {T:List (Nat × TI)} {st:St}
theorem Ni {ops:Array Oper} {l:List Nat} {x:RX} {an:List (Nat × mR)} {R:RR} (he:M0 (CF P) T ops N L l x an st=some R) (heq:Da R.eq)
  (hc: ∀it∈R.its,All (it.P R.yb)): ∃(y:Ag) (cs:List Prop),NM (CF P) T ops l N L y st=some (cs,R.st)∧All cs:=by
 unfold M0 at he
 simp only at he
 generalize YQ x.ov (runT (CF P) T ops.toList (fun _=>false) (Yq x.ov) (Gl x an) (PS x.fr) N l (vC st))=yb at he
 split at he
 ·rename_i its r inf hrun
  split at he
  ·rename_i e st1 hfin
   cases he
   simp only at heq hc
   have hall:All (its.flatMap (Ri.P yb)):=by
    clear hrun hfin
    induction its with
    |nil=>trivial
    |cons i l ih=>rw [List.flatMap_cons,bA];exact⟨hc i (by simp),ih fun j hj=>hc j (by simp [hj])⟩
   have hI:=Dp hrun
   obtain⟨ren,hfin⟩:=CK hfin
   obtain⟨ts,cs',hf,hcs⟩:=qO hfin heq _ hall
   refine⟨{yb:=yb,an:=Gl x an,fr:=PS x.fr,fin:=⟨x.fz,ren⟩,ts:=ts},cs', ?_,hcs⟩
   unfold NM
   simp only
   rw [tC hI]
   exact hf
  ·cases he
 ·cases he
end
def UH (l:List (Nat × Nat)):CP:=l.map fun e=>(.n e.1, .n e.2)
theorem zf: ∀{l:List (Nat × Nat)},CP.ok (UH l)→Da l
 |[],_=>fun _ h=>by simp at h
 |e::l,h=>fun x hx=>by
  rcases List.mem_cons.1 hx with rfl|hx
  ·exact Ck.n.inj h.1
  ·exact zf (l:=l) h.2 x hx
def Ng (g:Nat→CP × DV) (c':Nat→DV):Nat→CP
 |0=>[]
 |n+1=>(.dv (g n).2, .dv (c' n))::((g n).1++Ng g c' n)
theorem FZ {g:Nat→CP × DV} {c':Nat→DV}: ∀{n:Nat},(Ng g c' n).ok→ ∀j,j<n→(g j).1.ok∧(g j).2=c' j
 |0,_,j,hj=>by omega
 |n+1,h,j,hj=>by
  obtain⟨h1,h2⟩:=h
  rw [CP.gH]at h2
  by_cases e:j=n
  ·subst e;exact⟨h2.1,Ck.dv.inj h1⟩
  ·exact FZ h2.2 j (by omega)
def LQ:DV→DV→CP × DV
 | .sl yo e' l' f',x=>match x with
  | .sl nn e l f=>bif Nat.beq e 0 then([(.n l, .n 0),(.n l', .n 0)], .sl (match yo with|none=>none|some _=>nn) e' l' f')
   else([], .sl (match yo with|none=>none|some _=>nn) e l f)
  |x=>([],x)
 | .ip n' c',x=>match x with
  | .ip n c=>((.b (Nat.ble n' n), .b true)::Ng (fun j=>LQ (c' j) (c j)) c' n', .ip n' c')
  |x=>([],x)
 | .fn f' n' c',x=>match x with
  | .fn f n c=>((.n n, .n n')::Ng (fun j=>LQ (c' j) (c j)) c' n', .fn f n' c')
  |x=>([],x)
 |_,x=>([],x)
def Mx (t x:CV):CP × CV:=
 match t,x with
 | .d t, .d x=>((LQ t x).1, .d (LQ t x).2)
 | .own _ false _, .own b _ n=>([], .own b false n)
 |_,x=>([],x)
def Gq:List CV→List CV→CP × List CV
 |t::ts,x::xs=>((Mx t x).1++(Gq ts xs).1,(Mx t x).2::(Gq ts xs).2)
 |_,xs=>([],xs)
def Mh (t x:SV):CP × SV:=
 match t,x with
 | .one t, .one x=>((Mx t x).1, .one (Mx t x).2)
 | .agg ts, .agg xs=>((Gq ts xs).1, .agg (Gq ts xs).2)
 |_,x=>([],x)
def yR:List SV→List SV→CP × List SV
 |t::ts,x::xs=>((Mh t x).1++(yR ts xs).1,(Mh t x).2::(yR ts xs).2)
 |_,xs=>([],xs)
def JF (t x:TV):CP × TV:=
 match t,x with
 | .v t, .v x=>((Mh t x).1, .v (Mh t x).2)
 | .dL ts, .dL xs=>((yR ts xs).1, .dL (yR ts xs).2)
 |_,x=>([],x)
def Qt (t x:Option Ob):CP × Option Ob:=
 match t,x with
 |some (.cells _ ts),some (.cells E xs)=>((Gq ts xs).1,some (.cells E (Gq ts xs).2))
 |none,_=>([],none)
 |_,x=>([],x)
def vG:List (Nat × TV)→List (Nat × TV)→CP × List (Nat × TV)
 |(_,t)::ts,(k,x)::xs=>((JF t x).1++(vG ts xs).1,(k,(JF t x).2)::(vG ts xs).2)
 |_,xs=>([],xs)
def zV:List (Nat × Option Ob)→List (Nat × Option Ob)→CP × List (Nat × Option Ob)
 |(_,t)::ts,(k,x)::xs=>((Qt t x).1++(zV ts xs).1,(k,(Qt t x).2)::(zV ts xs).2)
 |_,xs=>([],xs)
theorem Yy (nn yo:Option Bool):(match yo with|none=>none|some _=>nn)=none∨(match yo with|none=>none|some _=>nn)=nn:=by cases yo<;>simp
theorem Tp: ∀{t x:DV},(LQ t x).1.ok→oo x (LQ t x).2:=by
 intro t
 induction t with
 |sl yo e' l' f' _=>
  intro x h
  cases x with
  |sl nn e l f=>
   simp only [LQ]at h ⊢
   cases he:Nat.beq e 0 with
   |true=>
    simp only [he,cond_true]at h ⊢
    have h1:l=0:=Ck.n.inj h.1
    have h2:l'=0:=Ck.n.inj h.2.1
    subst h1;subst h2
    rintro F w v ⟨a,cap,hv,g1,g2,g3,g4,g5⟩
    refine⟨a,cap,hv, ?_, ?_,g3,g4,fun ad ha=> ⟨fun hh=>absurd hh (by omega),fun i hi=>by omega⟩⟩
    ·intro hh;cases yo with
     |none=>cases hh
     |some b=>exact g1 hh
    ·intro hh;cases yo with
     |none=>cases hh
     |some b=>exact g2 hh
   |false=>
    simp only [he,cond_false]
    exact oo.sl (Yy _ _) fun _ _ _ _=> .refl _
  |_=>exact .refl _
 |ip n' c' ih=>
  intro x h
  cases x with
  |ip n c=>
   obtain⟨h1,h2⟩:=h
   have hc:=FZ h2
   refine oo.ip' (Nat.le_of_ble_eq_true (Ck.b.inj h1)) fun j hj=> ?_
   have:=ih j (x:=c j) (hc j hj).1
   rwa [(hc j hj).2]at this
  |_=>exact .refl _
 |fn f' n' c' ih=>
  intro x h
  cases x with
  |fn f n c=>
   obtain⟨h1,h2⟩:=h
   have hn:n=n':=Ck.n.inj h1
   subst hn
   have hc:=FZ h2
   rintro F w v ⟨vs,hv,hl,hr⟩
   refine⟨vs,hv,hl,fun j u hu=> ?_⟩
   have hj:j<n:=by rw [←hl];exact(List.getElem?_eq_some_iff.1 hu).1
   have:=ih j (x:=c j) (hc j hj).1
   rw [(hc j hj).2]at this
   exact this F w u (hr j u hu)
  |_=>exact .refl _
 |_=>intro x _;exact .refl _
theorem Nv {t x:CV} (h:(Mx t x).1.ok):zi x (Mx t x).2:=by
 unfold Mx at h ⊢
 split
 ·exact zi.d (Tp h)
 ·rintro ρ F w v (⟨k,base,cap,h1,h2⟩|⟨h0,h1,h2,h3⟩)
  ·exact .inl ⟨k,base,cap,h1,h2⟩
  ·exact .inr ⟨rfl,h1,h2,h3⟩
 ·exact .refl _
theorem Ir: ∀{ts xs:List CV},(Gq ts xs).1.ok→JR xs (Gq ts xs).2
 |t::ts,x::xs,h=>by
  simp only [Gq,CP.gH]at h
  exact⟨Nv h.1,Ir h.2⟩
 |[],xs,_=>by
  have: ∀l:List CV,JR l l:=fun l=>by induction l with|nil=>trivial|cons c l ih=>exact⟨.refl _,ih⟩
  simpa [Gq]using this xs
 |_::_,[],_=>trivial
theorem Nk {t x:SV} (h:(Mh t x).1.ok):Gg x (Mh t x).2:=by
 unfold Mh at h ⊢
 split
 ·exact Gg.one (Nv h)
 ·exact Gg.agg (Ir h)
 ·exact .refl _
theorem F6: ∀{ts xs:List SV},(yR ts xs).1.ok→Gj xs (yR ts xs).2
 |t::ts,x::xs,h=>by
  simp only [yR,CP.gH]at h
  exact⟨Nk h.1,F6 h.2⟩
 |[],xs,_=>by
  have: ∀l:List SV,Gj l l:=fun l=>by induction l with|nil=>trivial|cons c l ih=>exact⟨.refl _,ih⟩
  simpa [yR]using this xs
 |_::_,[],_=>trivial
theorem Ny {t x:TV} (h:(JF t x).1.ok):Di x (JF t x).2:=by
 unfold JF at h ⊢
 split
 ·exact Di.v (Nk h)
 ·exact Di.dL (F6 h)
 ·exact .refl _
theorem TY {t x:Option Ob} (h:(Qt t x).1.ok):LM x (Qt t x).2:=by
 unfold Qt at h ⊢
 split
 ·exact Dn (Ir h)
 ·cases x<;>trivial
 ·exact .refl _
theorem Hr: ∀{ts xs:List (Nat × TV)},(vG ts xs).1.ok→ ∀t tv',get (vG ts xs).2 t=some tv'→ ∃tv,get xs t=some tv∧Di tv tv'
 |(_,y)::ts,(k,x)::xs,h,t,tv',ht=>by
  simp only [vG,CP.gH]at h
  simp only [vG,aF]at ht
  rw [aF]
  split at ht
  ·rename_i e;cases ht;rw [if_pos e];exact⟨x,rfl,Ny h.1⟩
  ·rename_i e;rw [if_neg e];exact Hr h.2 t tv' ht
 |[],xs,_,t,tv',ht=> ⟨tv',by simpa [vG]using ht, .refl _⟩
 |_::_,[],_,t,tv',ht=>by simp [vG,get]at ht
theorem Eo: ∀{ts xs:List (Nat × Option Ob)},(zV ts xs).1.ok→oL xs (zV ts xs).2
 |(_,y)::ts,(k,x)::xs,h=>by
  simp only [zV,CP.gH]at h
  exact⟨rfl,TY h.1,Eo h.2⟩
 |[],xs,_=>by simpa [zV]using oL.refl xs
 |_::_,[],_=>trivial
def XK (b:Nat):List (Nat × Nat)→Nat
 |[]=>b
 |(a,c)::l=>bif Nat.beq c b then a else XK b l
def Sw (rn:List (Nat × Nat)):List Nat→List (Nat × Nat)
 |[]=>[]
 |b::l=>(XK b rn,b)::Sw rn l
def narrow (L fz:List Nat) (rn:List (Nat × Nat)) (tg st:St):Option CP:=
 match Ll L fz (nV tg.slots) (Sw rn (nV tg.heap)) (vC st)with
 |some (e,s1)=>some (UH e++((vG tg.slots s1.slots).1++((zV tg.heap s1.heap).1++[(.st ⟨(vG tg.slots s1.slots).2,(zV tg.heap s1.heap).2⟩, .st tg)])))
 |none=>none
section
variable {B:Base} {N:Nat} {L:List Nat} {st tg:St}
theorem Ul {s1:St} {ts:List (Nat × TV)} {hs:List (Nat × Option Ob)} (h1:(vG ts s1.slots).1.ok) (h2:(zV hs s1.heap).1.ok):j3 B N L s1 ⟨(vG ts s1.slots).2,(zV hs s1.heap).2⟩:=by
 intro a w hc
 obtain⟨⟨ρ,F,hfr,hhi,hs',dn⟩,hid,sz⟩:=hc
 refine⟨⟨ρ,F,hfr,hhi.le (Eo h2),fun t tv ht=> ?_,dn⟩,hid,sz⟩
 obtain⟨tv0,g1,g2⟩:=Hr h1 t tv ht
 obtain⟨v,hv,hr⟩:=hs' t tv0 g1
 exact⟨v,hv,g2 _ _ _ _ hr⟩
theorem lu {fz:List Nat} {rn:List (Nat × Nat)} {c:CP} (h:narrow L fz rn tg st=some c) (hc:c.ok):j3 B N L st tg:=by
 unfold narrow at h
 split at h
 ·rename_i e s1 e1
  cases h
  rw [CP.gH,CP.gH,CP.gH]at hc
  have hq:=zf hc.1
  have he:(⟨(vG tg.slots s1.slots).2,(zV tg.heap s1.heap).2⟩:St)=tg:=Ck.st.inj hc.2.2.2.1
  obtain⟨ts,cs',hf,hcs⟩:=qO e1 hq [] trivial
  exact he ▸ j3.trans (j3.fin _ ts hf hcs) (Ul hc.2.1 hc.2.2.1)
 ·cases h
end
inductive Kf where
 |sq (y:Code)
 |bl (id:Nat)
 |lo (c:Code) (n:Nat)
 |sc
section
variable (rd:Option Nat) (P:Program) (B:Base) (N:Nat) (L:List Nat)
def post:List Kf→(Exit→St→Prop)→Exit→St→Prop
 |[],Q=>Q
 | .sq y::K,Q=>fun e st=>match e with| .normal=>lY rd P B N L y (post K Q) st|e=>post K Q e st
 | .bl id::K,Q=>fun e st=>match e with| .exit i=>bif Nat.beq i id then post K Q .normal st else post K Q (.exit i) st|e=>post K Q e st
 | .lo c n::K,Q=>fun e st=>match e with| .normal=>LoopN rd P B N L c (post K Q) n st|e=>post K Q e st
 | .sc::K,Q=>fun e st=>(∀l,e≠ .goto l)∧post K Q e st
def QI (Q:Exit→St→Prop) (e:Exit) (st:St):Prop:= ∃s',j3 B N L st s'∧Q e s'
end
inductive CE where
 |c (x:Code)
 |e (x:Exit)
inductive YD where
 |at(c:Code) (K:List Kf)
 |fin (e:Exit)
 |bad
def Uv:List Oper→Bool
 |[]=>false
 |[o]=>match o.op with| .range _ _=>true|_=>false
 |_::l=>Uv l
def WQ (x y:Code):Bool:=match y with
 | .block _ (.loop _)=>match x with| .region _ ops false=>Uv ops.toList|_=>false
 |_=>false
def go:Nat→CE→List Kf→YD
 |0,_,_=> .bad
 |n+1, .c c,K=>match c with
  | .seq x y=>bif WQ x y then .at (.seq x y) K else go n (.c x) (.sq y::K)
  | .block id x=>go n (.c x) (.bl id::K)
  | .skip=>go n (.e .normal) K
  | .label _=>go n (.e .normal) K
  | .exit i=>go n (.e (.exit i)) K
  | .ret=>go n (.e .ret) K
  | .goto l=>go n (.e (.goto l)) K
  |c=> .at c K
 |n+1, .e e,K=>match K with
  |[]=> .fin e
  | .sq y::K=>match e with| .normal=>go n (.c y) K|e=>go n (.e e) K
  | .bl id::K=>match e with| .exit i=>bif Nat.beq i id then go n (.e .normal) K else go n (.e (.exit i)) K|e=>go n (.e e) K
  | .lo c m::K=>match e with| .normal=>(match m with|0=> .bad|m+1=>go n (.c c) (.lo c m::K))|e=>go n (.e e) K
  | .sc::K=>match e with| .goto _=> .bad|e=>go n (.e e) K
theorem Fs {rd:Option Nat} {P:Program} {B:Base} {N:Nat} {L:List Nat} {c:Code} {Q Q':Exit→St→Prop} (hq: ∀e st,Q e st→Q' e st): ∀{n:Nat} {st:St},LoopN rd P B N L c Q n st→LoopN rd P B N L c Q' n st
 |0,_,h=>h
 |n+1,st,h=>fB (Q:=fun e st'=>match e with| .normal=>LoopN rd P B N L c Q n st'|e=>Q e st') h fun e st' hh=>by
  cases e with
  |normal=>exact Fs hq (n:=n) hh
  |_=>exact hq _ _ hh
theorem OP {rd:Option Nat} {P:Program} {B:Base} {N:Nat} {L:List Nat} {c:Code} {Q:Exit→St→Prop} {n:Nat} {st st':St} (h:j3 B N L st st') (hw:LoopN rd P B N L c Q n st'):LoopN rd P B N L c Q n st:=by
 cases n with
 |zero=>exact hw
 |succ n=>exact wY h hw
section
variable {rd:Option Nat} {P:Program} {B:Base} {N:Nat} {L:List Nat} {T:List (Nat × TI)} {Q:Exit→St→Prop} {st st':St}
theorem QI.imp {e:Exit} (h:j3 B N L st st') (hq:QI B N L Q e st'):QI B N L Q e st:=by
 obtain⟨s,h1,h2⟩:=hq;exact⟨s,h.trans h1,h2⟩
theorem lW (h:j3 B N L st st'): ∀{K:List Kf} {e:Exit},post rd P B N L K (QI B N L Q) e st'→post rd P B N L K (QI B N L Q) e st
 |[],_,hq=>hq.imp h
 | .sq y::K,e,hq=>by
  cases e with
  |normal=>exact wY h hq
  |_=>exact lW (K:=K) h hq
 | .bl id::K,e,hq=>by
  cases e with
  |exit i=>
   simp only [post]at hq ⊢
   cases hb:Nat.beq i id with
   |true=>rw [hb]at hq;exact lW (K:=K) h hq
   |false=>rw [hb]at hq;exact lW (K:=K) h hq
  |_=>exact lW (K:=K) h hq
 | .lo c n::K,e,hq=>by
  cases e with
  |normal=>exact OP h hq
  |_=>exact lW (K:=K) h hq
 | .sc::K,e,hq=> ⟨hq.1,lW (K:=K) h hq.2⟩
def X3 (rd:Option Nat) (P:Program) (B:Base) (N:Nat) (L:List Nat) (f:YD) (Q:Exit→St→Prop) (st:St):Prop:=
 match f with
 | .at c K=>lY rd P B N L c (post rd P B N L K (QI B N L Q)) st
 | .fin e=>QI B N L Q e st
 | .bad=>False
def CeS (rd:Option Nat) (P:Program) (B:Base) (N:Nat) (L:List Nat) (x:CE) (K:List Kf) (Q:Exit→St→Prop) (st:St):Prop:=
 match x with
 | .c c=>lY rd P B N L c (post rd P B N L K (QI B N L Q)) st
 | .e e=>post rd P B N L K (QI B N L Q) e st
theorem go_ok: ∀{n:Nat} {x:CE} {K:List Kf},X3 rd P B N L (go n x K) Q st→CeS rd P B N L x K Q st
 |0,_,_,h=>h.elim
 |n+1, .c c,K,h=>by
  unfold go at h
  split at h
  ·rename_i x y
   cases hr:WQ x y with
   |true=>rw [hr]at h;exact h
   |false=>rw [hr]at h;have:=go_ok (n:=n) h;exact BX this
  ·have:=go_ok h;exact M8 this
  ·have:=go_ok h;exact Lb this
  ·have:=go_ok h;exact G6 this
  ·have:=go_ok h;exact QL this
  ·have:=go_ok h;exact S9 this
  ·have:=go_ok h;exact RA this
  ·exact h
 |n+1, .e e,[],h=>h
 |n+1, .e e, .sq y::K,h=>by
  unfold go at h
  cases e with
  |normal=>exact go_ok (n:=n) (x:= .c y) (K:=K) h
  |exit i=>exact go_ok (n:=n) (x:= .e _) (K:=K) h
  |goto l=>exact go_ok (n:=n) (x:= .e _) (K:=K) h
  |ret=>exact go_ok (n:=n) (x:= .e _) (K:=K) h
  |panic c=>exact go_ok (n:=n) (x:= .e _) (K:=K) h
  |outgrown=>exact go_ok (n:=n) (x:= .e _) (K:=K) h
 |n+1, .e e, .bl id::K,h=>by
  unfold go at h
  cases e with
  |exit i=>
   show(bif Nat.beq i id then _ else _)
   simp only at h
   cases hb:Nat.beq i id with
   |true=>rw [hb]at h;exact go_ok (n:=n) (x:= .e _) (K:=K) h
   |false=>rw [hb]at h;exact go_ok (n:=n) (x:= .e _) (K:=K) h
  |normal=>exact go_ok (n:=n) (x:= .e _) (K:=K) h
  |goto l=>exact go_ok (n:=n) (x:= .e _) (K:=K) h
  |ret=>exact go_ok (n:=n) (x:= .e _) (K:=K) h
  |panic c=>exact go_ok (n:=n) (x:= .e _) (K:=K) h
  |outgrown=>exact go_ok (n:=n) (x:= .e _) (K:=K) h
 |n+1, .e e, .lo c m::K,h=>by
  unfold go at h
  cases e with
  |normal=>
   cases m with
   |zero=>exact h.elim
   |succ m=>exact go_ok (n:=n) (x:= .c c) (K:= .lo c m::K) h
  |exit i=>exact go_ok (n:=n) (x:= .e _) (K:=K) h
  |goto l=>exact go_ok (n:=n) (x:= .e _) (K:=K) h
  |ret=>exact go_ok (n:=n) (x:= .e _) (K:=K) h
  |panic c=>exact go_ok (n:=n) (x:= .e _) (K:=K) h
  |outgrown=>exact go_ok (n:=n) (x:= .e _) (K:=K) h
 |n+1, .e e, .sc::K,h=>by
  unfold go at h
  cases e with
  |goto l=>exact h.elim
  |normal=>exact⟨fun _=>Exit.noConfusion,go_ok (n:=n) (x:= .e _) (K:=K) h⟩
  |exit i=>exact⟨fun _=>Exit.noConfusion,go_ok (n:=n) (x:= .e _) (K:=K) h⟩
  |ret=>exact⟨fun _=>Exit.noConfusion,go_ok (n:=n) (x:= .e _) (K:=K) h⟩
  |panic c=>exact⟨fun _=>Exit.noConfusion,go_ok (n:=n) (x:= .e _) (K:=K) h⟩
  |outgrown=>exact⟨fun _=>Exit.noConfusion,go_ok (n:=n) (x:= .e _) (K:=K) h⟩
theorem lZ {Q1:Exit→St→Prop} {K2:List Kf} (hq: ∀e st,Q1 e st→post rd P B N L K2 Q e st): ∀{K1:List Kf} {e:Exit} {st:St},post rd P B N L K1 Q1 e st→post rd P B N L (K1++K2) Q e st
 |[],e,st,h=>hq e st h
 | .sq y::K,e,st,h=>by
  cases e with
  |normal=>exact fB h fun e st hh=>lZ hq hh
  |_=>exact lZ (K1:=K) hq h
 | .bl id::K,e,st,h=>by
  cases e with
  |exit i=>
   simp only [post,List.cons_append]at h ⊢
   cases hb:Nat.beq i id with
   |true=>rw [hb]at h;exact lZ (K1:=K) hq h
   |false=>rw [hb]at h;exact lZ (K1:=K) hq h
  |_=>exact lZ (K1:=K) hq h
 | .lo c n::K,e,st,h=>by
  cases e with
  |normal=>exact Fs (n:=n) (fun e st hh=>lZ hq hh) h
  |_=>exact lZ (K1:=K) hq h
 | .sc::K,e,st,h=> ⟨h.1,lZ (K1:=K) hq h.2⟩
end
inductive Po:Type→Type 1 where
 |fn {R:Type} (T:List (Nat × TI)) (rs:List ResultVar) (res:R→TV) (hout:R→List (Nat × Option Ob)):Po R
 |jn {R β:Type} (K:List Kf) (t:β→St) (o:Po R):Po (Ex β R)
 |jN {β:Type} (t:β→St):Po β
 |lp {R σ β:Type} (b:Nat) (K:List Kf) (S:σ→St) (Sb:β→St) (o:Po R):Po (dG σ (Ex β R))
 |gt {R σ β:Type} (l:Nat) (K:List Kf) (S:σ→St) (Sb:β→St) (o:Po R):Po (dG σ (Ex β R))
 |yl {R:Type} (b:Nat) (r:iV) (res:R→TV) (hout:R→List (Nat × Option Ob)):Po R
 |gb {R σ:Type} (L0:List Nat) (S:σ→St) (T:List (Nat × TI)) (rs:List ResultVar) (res:R→TV) (hout:R→List (Nat × Option Ob)):Po (dG σ (Ex Empty R))
section
variable (rd:Option Nat) (P:Program) (B:Base) (N:Nat) (L:List Nat)
def Po.Q:{R:Type}→Po R→R→Exit→St→Prop
 |_, .fn T rs res hout=>fun r e st=>D6 T rs (res r) (hout r) e st
 |_, .jn K t o=>fun r e st=>match r with
  | .brk z=>e= .normal∧st=t z
  | .ret x=>e≠ .normal∧post rd P B N L K (QI B N L (o.Q x)) e st
 |_, .jN t=>fun r e st=>e= .normal∧st=t r
 |_, .lp b K S Sb o=>fun r e st=>match r with
  | .next s=>e= .normal∧st=S s
  | .done (.brk z)=>e= .exit b∧st=Sb z
  | .done (.ret x)=>e≠ .normal∧e≠ .exit b∧post rd P B N L K (QI B N L (o.Q x)) e st
 |_, .gt l K S Sb o=>fun r e st=>match r with
  | .next s=>e= .goto l∧st=S s
  | .done (.brk z)=>e= .normal∧st=Sb z
  | .done (.ret x)=>(∀l',e≠ .goto l')∧e≠ .normal∧post rd P B N L K (QI B N L (o.Q x)) e st
 |_, .yl b rec res hout=>fun r e st=>AZ b rec (res r) (hout r) e st
 |_, .gb L0 S T rs res hout=>fun r e st=>match r with
  | .next s=>e= .normal∧st=S s
  | .done (.brk z)=>z.elim
  | .done (.ret x)=>e= .ret∧ ∀B,∃s',j3 B N L0 st s'∧D6 T rs (res x) (hout x) .ret s'
end
def Zb:List ResultVar→List Nat
 |[]=>[]
 | .tmp t::l=>t::Zb l
 | .cell t _::l=>t::Zb l
def Nz:Exit→Bool
 | .normal| .ret=>true
 |_=>false
def xN:Exit→Bool
 | .normal=>true
 |_=>false
def L6 (b:Nat):Exit→Bool
 | .exit i=>Nat.beq i b
 |_=>false
def FU:Nat:=5000
def isGo:Exit→Bool
 | .goto _=>true
 |_=>false
def QA (l:Nat):Exit→Bool
 | .goto i=>Nat.beq i l
 |_=>false
def G5 (e:Exit):List Code→Nat→Option Nat
 |[],_=>none
 |c::l,k=>match c,e with
  | .ret, .ret=>some k
  | .exit i, .exit j=>bif Nat.beq i j then some k else G5 e l (k+1)
  | .goto i, .goto j=>bif Nat.beq i j then some k else G5 e l (k+1)
  |_,_=>G5 e l (k+1)
def Uw (e:Exit) (l:List Code):Option (Nat × Bool):=
 match e with
 | .normal=>some (0,true)
 |e=>match G5 e l 0 with|some k=>some (k+2,false)|none=>none
def QE (L fz:List Nat) (rn:List (Nat × Nat)) (b:Nat) (rec:iV) (res:TV) (hout:List (Nat × Option Ob)) (e:Exit) (st:St):Option CP:=
 match Uw e rec.outs with
 |some (s,v)=>match Ll L fz [] (Sw rn (nV hout)) (vC st)with
  |some (q,s1)=>match get s1.heap b with
   |some (some (.loop r1 1 sl))=>some (UH q++((zV hout (Bt b s s1.heap)).1++[(.ob (some (.loop r1 1 sl)), .ob (some (.loop rec 1 sl))),(.hp (zV hout (Bt b s s1.heap)).2, .hp hout),(.tv (vB v), .tv res)]))
   |_=>none
  |none=>none
 |none=>none
def Nc (L fz:List Nat) (rn:List (Nat × Nat)) (T:List (Nat × TI)) (rs:List ResultVar) (res:TV) (hout:List (Nat × Option Ob)) (st:St):Option CP:=
 match Ll L fz (Zb rs) (Sw rn (nV hout)) (vC st)with
 |some (e,s1)=>match IL T s1 rs with
  |some ([],l)=>some (UH e++((JF res (JK l)).1++((zV hout s1.heap).1++[(.tv (JF res (JK l)).2, .tv res),(.hp (zV hout s1.heap).2, .hp hout)])))
  |_=>none
 |none=>none
def leaf (L fz:List Nat) (rn:List (Nat × Nat)):{R:Type}→Po R→Exit→R→St→Option CP
 |_, .fn T rs res hout=>fun e r st=>bif Nz e then Nc L fz rn T rs (res r) (hout r) st else none
 |_, .jn K t o=>fun e r st=>match r with
  | .brk z=>bif xN e then narrow L fz rn (t z) st else none
  | .ret x=>bif xN e then none else match go FU (.e e) K with
   | .fin e'=>leaf L fz rn o e' x st
   |_=>none
 |_, .jN t=>fun e r st=>bif xN e then narrow L fz rn (t r) st else none
 |_, .lp b K S Sb o=>fun e r st=>match r with
  | .next s=>bif xN e then narrow L fz rn (S s) st else none
  | .done (.brk z)=>bif L6 b e then narrow L fz rn (Sb z) st else none
  | .done (.ret x)=>bif xN e||L6 b e then none else match go FU (.e e) K with
   | .fin e'=>leaf L fz rn o e' x st
   |_=>none
 |_, .gt l K S Sb o=>fun e r st=>match r with
  | .next s=>bif QA l e then narrow L fz rn (S s) st else none
  | .done (.brk z)=>bif xN e then narrow L fz rn (Sb z) st else none
  | .done (.ret x)=>bif xN e||isGo e then none else match go FU (.e e) K with
   | .fin e'=>leaf L fz rn o e' x st
   |_=>none
 |_, .yl b rec res hout=>fun e r st=>QE L fz rn b rec (res r) (hout r) e st
 |_, .gb L0 S T rs res hout=>fun e r st=>match r with
  | .next s=>bif xN e then narrow L fz rn (S s) st else none
  | .done (.brk z)=>z.elim
  | .done (.ret x)=>match e with| .ret=>Nc L0 fz rn T rs (res x) (hout x) st|_=>none
section
variable {rd:Option Nat} {P:Program} {B:Base} {N:Nat} {L:List Nat}
theorem Fv {e:Exit} (h:xN e=true):e= .normal:=by cases e<;>first|rfl|cases h
theorem Mj {e:Exit} (h:xN e=false):e≠ .normal:=by rintro rfl;cases h
theorem Wj {b:Nat} {e:Exit} (h:L6 b e=true):e= .exit b:=by
 cases e<;>first|cases h|(rename_i i;exact congrArg Exit.exit (Nat.eq_of_beq_eq_true h))
theorem VQ {b:Nat} {e:Exit} (h:L6 b e=false):e≠ .exit b:=by rintro rfl;simp [L6]at h
theorem Vd {e:Exit} (h:isGo e=false): ∀l,e≠ .goto l:=by rintro l rfl;cases h
theorem SI {l:Nat} {e:Exit} (h:QA l e=true):e= .goto l:=by
 cases e<;>first|cases h|(rename_i i;exact congrArg Exit.goto (Nat.eq_of_beq_eq_true h))
theorem Bv {e:Exit} {l0:List Code}: ∀{l:List Code} {k j:Nat},(∀i c,l[i]? =some c→l0[k+i]? =some c)→G5 e l k=some j→ ∃c,l0[j]? =some c∧CB c=true∧e=Bl c
 |[],k,j,_,h=>by cases h
 |c::l,k,j,hl,h=>by
  have hn: ∀i c',l[i]? =some c'→l0[k+1+i]? =some c':=fun i c' hc=>by
   have:=hl (i+1) c' (by simpa using hc)
   rwa [show k+(i+1)=k+1+i by omega]at this
  have h0:=hl 0 c rfl
  unfold G5 at h
  split at h
  ·cases h;exact⟨_,h0,rfl,rfl⟩
  ·rename_i i' j'
   cases hb:Nat.beq i' j' with
   |true=>rw [hb]at h;cases h;have:=Nat.eq_of_beq_eq_true hb;subst this;exact⟨_,h0,rfl,rfl⟩
   |false=>rw [hb]at h;exact Bv hn h
  ·rename_i i' j'
   cases hb:Nat.beq i' j' with
   |true=>rw [hb]at h;cases h;have:=Nat.eq_of_beq_eq_true hb;subst this;exact⟨_,h0,rfl,rfl⟩
   |false=>rw [hb]at h;exact Bv hn h
  ·exact Bv hn h
theorem QX {fz:List Nat} {rn:List (Nat × Nat)} {b:Nat} {rec:iV} {res:TV} {hout:List (Nat × Option Ob)} {e:Exit} {st:St} {c:CP} (h:QE L fz rn b rec res hout e st=some c) (hc:c.ok):
  QI B N L (AZ b rec res hout) e st:=by
 unfold QE at h
 split at h
 ·rename_i s v e0
  split at h
  ·rename_i q s1 e1
   split at h
   ·rename_i r1 sl e2
    cases h
    rw [CP.gH,CP.gH]at hc
    have hq:=zf hc.1
    obtain⟨ts,cs',hf,hcs⟩:=qO e1 hq [] trivial
    obtain⟨h1,h2,h3,_⟩:=hc.2.2
    have h1:=Ck.ob.inj h1
    simp only [Option.some.injEq,Ob.loop.injEq,and_true]at h1
    subst h1
    refine⟨s1,j3.fin _ ts hf hcs,s,v,sl, ?_,e2, ?_, ?_⟩
    ·unfold Uw at e0
     split at e0
     ·cases e0;exact .inl ⟨rfl,rfl,rfl⟩
     ·rename_i hne
      split at e0
      ·rename_i k e3
       cases e0
       obtain⟨c,g1,g2,g3⟩:=Bv (l0:=r1.outs) (l:=r1.outs) (k:=0) (fun i c hc=>by simpa using hc) e3
       exact .inr ⟨k,c,g1,g2,g3,rfl,rfl⟩
      ·cases e0
    ·have:=Eo hc.2.1;rwa [Ck.hp.inj h2]at this
    ·exact Di.of (Ck.tv.inj h3)
   ·cases h
  ·cases h
 ·cases h
theorem KX {fz:List Nat} {rn:List (Nat × Nat)} {T:List (Nat × TI)} {rs:List ResultVar} {res:TV} {hout:List (Nat × Option Ob)} {e:Exit} {st:St} {c:CP} (he:Nz e=true) (h:Nc L fz rn T rs res hout st=some c) (hc:c.ok):
  QI B N L (D6 T rs res hout) e st:=by
 unfold Nc at h
 split at h
 ·rename_i q s1 e1
  split at h
  ·rename_i l e2
   cases h
   rw [CP.gH,CP.gH,CP.gH]at hc
   have hq:=zf hc.1
   obtain⟨ts,cs',hf,hcs⟩:=qO e1 hq [] trivial
   have h1:(JF res (JK l)).2=res:=Ck.tv.inj hc.2.2.2.1
   have h2:(zV hout s1.heap).2=hout:=Ck.hp.inj hc.2.2.2.2.1
   refine⟨s1,j3.fin _ ts hf hcs, ?_,⟨[],l,e2,trivial, ?_⟩, ?_⟩
   ·cases e<;>simp [Nz]at he<;>simp
   ·have:=Ny hc.2.1;rwa [h1]at this
   ·have:=Eo hc.2.2.1;rwa [h2]at this
  ·cases h
 ·cases h
theorem TF {fz:List Nat} {rn:List (Nat × Nat)}: ∀{R:Type} {po:Po R} {e:Exit} {r:R} {st:St} {c:CP},leaf L fz rn po e r st=some c→c.ok→QI B N L (po.Q rd P B N L r) e st:=by
 intro R po
 induction po with
 |fn T rs res hout=>
  intro e r st c h hc
  unfold leaf at h
  cases he:Nz e with
  |false=>simp [he]at h
  |true=>simp only [he,cond_true]at h;exact KX he h hc
 |jN t=>
  intro e r st c h hc
  unfold leaf at h
  cases he:xN e with
  |false=>simp [he]at h
  |true=>simp only [he,cond_true]at h;exact⟨_,lu h hc,Fv he,rfl⟩
 |jn K t o ih=>
  intro e r st c h hc
  unfold leaf at h
  cases r with
  |brk z=>
   simp only at h
   cases he:xN e with
   |false=>simp [he]at h
   |true=>simp only [he,cond_true]at h;exact⟨_,lu h hc,Fv he,rfl⟩
  |ret x=>
   simp only at h
   cases he:xN e with
   |true=>simp [he]at h
   |false=>
    simp only [he,cond_false]at h
    split at h
    ·rename_i e' e1
     have:=ih h hc
     refine⟨st, .refl,Mj he, ?_⟩
     exact go_ok (n:=FU) (x:= .e e) (by rw [e1];exact this)
    ·cases h
 |lp b K S Sb o ih=>
  intro e r st c h hc
  unfold leaf at h
  cases r with
  |next s=>
   simp only at h
   cases he:xN e with
   |false=>simp [he]at h
   |true=>simp only [he,cond_true]at h;exact⟨_,lu h hc,Fv he,rfl⟩
  |done r=>
   cases r with
   |brk z=>
    simp only at h
    cases he:L6 b e with
    |false=>simp [he]at h
    |true=>simp only [he,cond_true]at h;exact⟨_,lu h hc,Wj he,rfl⟩
   |ret x=>
    simp only at h
    cases he:(xN e||L6 b e)with
    |true=>simp [he]at h
    |false=>
     simp only [he,cond_false]at h
     rw [Bool.or_eq_false_iff]at he
     split at h
     ·rename_i e' e1
      have:=ih h hc
      refine⟨st, .refl,Mj he.1,VQ he.2, ?_⟩
      exact go_ok (n:=FU) (x:= .e e) (by rw [e1];exact this)
     ·cases h
 |gt b K S Sb o ih=>
  intro e r st c h hc
  unfold leaf at h
  cases r with
  |next s=>
   simp only at h
   cases he:QA b e with
   |false=>simp [he]at h
   |true=>simp only [he,cond_true]at h;exact⟨_,lu h hc,SI he,rfl⟩
  |done r=>
   cases r with
   |brk z=>
    simp only at h
    cases he:xN e with
    |false=>simp [he]at h
    |true=>simp only [he,cond_true]at h;exact⟨_,lu h hc,Fv he,rfl⟩
   |ret x=>
    simp only at h
    cases he:(xN e||isGo e)with
    |true=>simp [he]at h
    |false=>
     simp only [he,cond_false]at h
     rw [Bool.or_eq_false_iff]at he
     split at h
     ·rename_i e' e1
      have:=ih h hc
      refine⟨st, .refl,Vd he.2,Mj he.1, ?_⟩
      exact go_ok (n:=FU) (x:= .e e) (by rw [e1];exact this)
     ·cases h
 |yl b rec res hout=>
  intro e r st c h hc
  exact QX h hc
 |gb L0 S T rs res hout=>
  intro e r st c h hc
  unfold leaf at h
  cases r with
  |next s=>
   simp only at h
   cases he:xN e with
   |false=>simp [he]at h
   |true=>simp only [he,cond_true]at h;exact⟨_,lu h hc,Fv he,rfl⟩
  |done r=>
   cases r with
   |brk z=>exact z.elim
   |ret x=>
    simp only at h
    cases e with
    |ret=>
     exact⟨st, .refl,rfl,fun B=>KX (B:=B) (N:=N) (e:= .ret) rfl h hc⟩
    |_=>cases h
end
def fact (Γ:List Prop) (j:Nat):Prop:=match Γ,j with
 |[],_=>True
 |p::_,0=>p
 |_::l,j+1=>fact l j
theorem qm: ∀{Γ:List Prop} {j:Nat},All Γ→fact Γ j
 |[],_,_=>trivial
 |_::_,0,h=>h.1
 |_::_,j+1,h=>qm (j:=j) h.2
def Ye (Γ:List Prop):Cs→Prop
 | .u j=>fact Γ j
 | .k j=>fact Γ j
 | .pf x=>x.p
 | .dv _ x=>x.b
 | .dk _ x=>x.b
 | .m _ _ b _=>b
def YL (Γ:List Prop):List Nat→List Prop→Option CP
 |[],[]=>some []
 |j::js,a::az=>match YL Γ js az with|some l=>some ((.p (fact Γ j), .p a)::l)|none=>none
 |_,_=>none
theorem QD {Γ:List Prop} (hΓ:All Γ): ∀{js:List Nat} {az:List Prop} {l:CP},YL Γ js az=some l→l.ok→All az
 |[],[],_,_,_=>trivial
 |j::js,a::az,l,h,hl=>by
  unfold YL at h
  split at h
  ·rename_i e;cases h;exact⟨Ck.p.inj hl.1 ▸ qm hΓ,QD hΓ e hl.2⟩
  ·cases h
 |[],_::_,_,h,_=>by cases h
 |_::_,[],_,h,_=>by cases h
def WK (Γ:List Prop):Cs→CP
 | .dv j x=>[(.p (fact Γ j), .p x.a)]
 | .dk j x=>[(.p (fact Γ j), .p x.a)]
 | .m js a _ _=>match YL Γ js a with|some l=>l|none=>[(.b true, .b false)]
 |_=>[]
def Z8:Cs→Bool
 | .u _=>true
 | .dv _ _=>true
 | .m _ _ _ _=>true
 |_=>false
theorem IA {Γ:List Prop} (hΓ:All Γ) {c:Cs} (h:CP.ok (WK Γ c)):Ye Γ c:=by
 cases c with
 |u j=>exact qm hΓ
 |k j=>exact qm hΓ
 |pf x=>exact x.h
 |dv j x=>exact x.h (Ck.p.inj h.1 ▸ qm hΓ)
 |dk j x=>exact x.h (Ck.p.inj h.1 ▸ qm hΓ)
 |m js a b hb=>
  simp only [WK]at h
  split at h
  ·rename_i e;exact hb (QD hΓ e h)
  ·exact absurd (Ck.b.inj h.1) (by simp)
def Jg (Γ:List Prop) (w:Prop→Prop):List Prop→List Cs→Option (CP × List Cs)
 |[],cs=>some ([],cs)
 |p::ps,c::cs=>match Jg Γ w ps cs with
  |some (l,r)=>some ((.p (bif Z8 c then w p else p), .p (Ye Γ c))::(WK Γ c++l),r)
  |none=>none
 |_::_,[]=>none
def WC (yb:Nat→Bool):List (Nat × Bool)→Bool
 |[]=>true
 |(j,w)::g=>(yb j==w) && WC yb g
theorem IK {yb:Nat→Bool}: ∀{g:List (Nat × Bool)},WC yb g=true↔gP yb g
 |[]=>by simp [WC,gP]
 |(j,w)::g=>by simp [WC,gP,IK]
def YN (yb:Nat→Bool) (g:List (Nat × Bool)) (p:Prop):Prop:=match g with
 |[]=>p
 |g=>gB (g.map fun q=>(yb q.1,q.2))=true→p
theorem Vl {yb:Nat→Bool} {g:List (Nat × Bool)} (p:Prop) (h:p):YN yb g p:=by
 cases g with
 |nil=>exact h
 |cons x g=>exact fun _=>h
theorem U2 {yb:Nat→Bool} {g:List (Nat × Bool)}: ∀{l:List Prop},All (l.map (YN yb g))→All (Aq yb g l):=by
 intro l h
 cases g with
 |nil=>have h':All (l.map id):=h;simpa [Aq]using h'
 |cons x g=>
  cases l with
  |nil=>trivial
  |cons p l=>
   refine⟨fun hg=> ?_,trivial⟩
   have hb:=Ux hg
   have: ∀l:List Prop,All (l.map (YN yb (x::g)))→All l:=fun l=>by
    induction l with
    |nil=>exact fun _=>trivial
    |cons q l ih=>exact fun hh=> ⟨hh.1 hb,ih hh.2⟩
   exact this _ h
theorem Im {Γ:List Prop} (hΓ:All Γ) {w:Prop→Prop} (hw: ∀p,p→w p): ∀{ps:List Prop} {cs r:List Cs} {l:CP},Jg Γ w ps cs=some (l,r)→l.ok→All (ps.map w)
 |[],_,_,_,_,_=>trivial
 |p::ps,[],_,_,h,_=>by cases h
 |p::ps,c::cs,r,l,h,hl=>by
  unfold Jg at h
  split at h
  ·rename_i l' r' e
   cases h
   obtain⟨h1,h2⟩:=hl
   rw [CP.gH]at h2
   refine⟨?_,Im hΓ hw e h2.2⟩
   have h3:=IA hΓ h2.1
   rw [←Ck.p.inj h1]at h3
   cases hc:Z8 c with
   |true=>rw [hc]at h3;exact h3
   |false=>rw [hc]at h3;exact hw _ h3
  ·cases h
def SL (Γ:List Prop) (ov:List (Nat × Bool × Nat)) (j:Nat) (a v:Bool):CP:=
 match get ov j with
 |some (w,k)=>[(.p (a=w), .p (fact Γ k)),(.b v, .b w)]
 |none=>[(.b a, .b v)]
theorem Nn {Γ:List Prop} (hΓ:All Γ) {ov:List (Nat × Bool × Nat)} {j:Nat} {a v:Bool} (h:(SL Γ ov j a v).ok):a=v:=by
 unfold SL at h
 split at h
 ·have:a=_:=Ck.p.inj h.1 ▸ qm hΓ
  rw [this];exact(Ck.b.inj h.2.1).symm
 ·exact Ck.b.inj h.1
def nG (yb:Nat→Bool) (ov:List (Nat × Bool × Nat)) (Γ:List Prop):List Ri→List Cs→Option CP
 |[],[]=>some []
 |[],_::_=>none
 | .eb j a v::its,cs=>match nG yb ov Γ its cs with|some l=>some (SL Γ ov j a v++l)|none=>none
 | .eg _ j a v::its,cs=>match nG yb ov Γ its cs with|some l=>some (SL Γ ov j a v++l)|none=>none
 | .cs g ps::its,cs=>match Jg Γ (YN yb g) ps cs with
  |some (l1,cs')=>match nG yb ov Γ its cs' with|some l=>some (l1++l)|none=>none
  |none=>none
 | .nd g::its,cs=>match nG yb ov Γ its cs with|some l=>some ((.b (WC yb g), .b true)::l)|none=>none
 | .ng g::its,cs=>match nG yb ov Γ its cs with|some l=>some ((.b (WC yb g), .b false)::l)|none=>none
theorem Qa {yb:Nat→Bool} {g:List (Nat × Bool)} {p:Prop} (h:p):All (Aq yb g [p]):=by
 cases g with
 |nil=>exact⟨h,trivial⟩
 |cons x g=>exact⟨fun _=> ⟨h,trivial⟩,trivial⟩
theorem BO {yb:Nat→Bool} {ov:List (Nat × Bool × Nat)} {Γ:List Prop} (hΓ:All Γ): ∀{its:List Ri} {cs:List Cs} {l:CP},nG yb ov Γ its cs=some l→l.ok→ ∀it∈its,All (it.P yb)
 |[],_,_,_,_=>fun _ h=>by simp at h
 |it::its,cs,l,h,hl=>by
  have key: ∃cs' l',nG yb ov Γ its cs'=some l'∧l'.ok∧All (it.P yb):=by
   cases it with
   |eb j a v=>
    unfold nG at h;split at h
    ·rename_i l' e;cases h;rw [CP.gH]at hl;exact⟨_,_,e,hl.2,Nn hΓ hl.1,trivial⟩
    ·cases h
   |eg g j a v=>
    unfold nG at h;split at h
    ·rename_i l' e;cases h;rw [CP.gH]at hl;exact⟨_,_,e,hl.2,Qa (Nn hΓ hl.1)⟩
    ·cases h
   |cs g ps=>
    unfold nG at h;split at h
    ·rename_i l1 cs' e0
     split at h
     ·rename_i l' e;cases h;rw [CP.gH]at hl;exact⟨_,_,e,hl.2,U2 (Im hΓ Vl e0 hl.1)⟩
     ·cases h
    ·cases h
   |nd g=>
    unfold nG at h;split at h
    ·rename_i l' e;cases h;exact⟨_,_,e,hl.2,IK.1 (Ck.b.inj hl.1),trivial⟩
    ·cases h
   |ng g=>
    unfold nG at h;split at h
    ·rename_i l' e;cases h;exact⟨_,_,e,hl.2,(fun hg=>by have:=IK.2 hg;rw [Ck.b.inj hl.1]at this;cases this),trivial⟩
    ·cases h
  obtain⟨cs',l',h1,h2,h3⟩:=key
  intro x hx
  rcases List.mem_cons.1 hx with rfl|hx
  ·exact h3
  ·exact BO hΓ h1 h2 x hx
def Vj:List Ri→Nat
 |[]=>0
 | .cs _ ps::l=>ps.length+Vj l
 |_::l=>Vj l
def dfl:Nat→List Cs
 |0=>[]
 |n+1=> .u n::dfl n
def Ml (its:List Ri):List Cs→List Cs
 |[]=>dfl (Vj its)
 |l=>l
structure IS where
 act:St→List Ck
 want:St→List Ck
 nxt:St→St
 ok: ∀B N L st,act st=want st→j3 B N L st (nxt st)
structure ISp where
 p:Prop
 act:St→List Ck
 want:St→List Ck
 nxt:St→St
 ok:p→ ∀B N L st,act st=want st→j3 B N L st (nxt st)
def F8:List Ck→List Ck→Option CP
 |[],[]=>some []
 |x::xs,y::ys=>match F8 xs ys with|some l=>some ((x,y)::l)|none=>none
 |_,_=>none
theorem Gc: ∀{l m:List Ck} {c:CP},F8 l m=some c→c.ok→l=m
 |[],[],_,_,_=>rfl
 |x::xs,y::ys,c,h,hc=>by
  unfold F8 at h
  split at h
  ·rename_i l e;cases h;rw [show x=y from hc.1,Gc e hc.2]
  ·cases h
 |[],_::_,_,h,_=>by cases h
 |_::_,[],_,h,_=>by cases h
structure Tg (β:Type) where
 ks:List Nat
 kh:List Nat
 s:β→List (Nat × TV)
 h:β→List (Nat × Option Ob)
def Jj {α:Type} (l:List (Nat × α)):List Nat→List (Nat × α)
 |[]=>[]
 |k::ks=>match get l k with|some x=>(k,x)::Jj l ks|none=>Jj l ks
def Tg.at {β:Type} (t:Tg β) (st:St) (z:β):St:=⟨t.s z++Jj st.slots t.ks,t.h z++Jj st.heap t.kh⟩
inductive Sc:Type→Type 1 where
 |en {R:Type} (r:R) (fz:List Nat) (rn:List (Nat × Nat)):Sc R
 |no {R:Type}:Sc R
 |rg {R:Type} (x:RX) (cs:List Cs) (k:Sc R):Sc R
 |bd {R T:Type} (o:Option T) (q:T→Prop) (h: ∀y,o=some y→q y) (an:T→List (Nat × mR)) (k:T→Sc R):Sc R
 |as {R:Type} (c:Prop) (d:Decidable c) (l:List Prop) (h:c→All l) (k:Sc R):Sc R
 |it {R:Type} (a b:Sc R):Sc R
 |tf {R:Type} (v:Bool) (c:List Cs) (k:Sc R):Sc R
 |fk {R:Type} (b:Bool) (x y:Sc R):Sc R
 |im {R:Type} (s:IS) (k:Sc R):Sc R
 |wi {R:Type} (j:Nat) (s:ISp) (k:Sc R):Sc R
 |fz {R:Type} (l:List Nat) (k:Sc R):Sc R
 |ul {R:Type} (n:Nat) (k:Sc R):Sc R
 |ss {R:Type} (k:Sc R):Sc R
 |sp {R σ β:Type} (s0:σ) (t:Tg σ) (u:Tg β) (a:Sc Unit) (body:σ→Sc (dG σ (Ex β R))) (k:β→Sc R):Sc R
 |rf {R:Type} (lb:Nat) (sl:List Nat) (outs:List Code) (w:Option Nat) (jf:Nat) (c:List Cs) (k:Sc R):Sc R
 |jn {R β:Type} (d:Nat) (t:Tg β) (a:Sc (Ex β R)) (k:β→Sc R):Sc R
 |jN {R β:Type} (d:Nat) (t:Tg β) (a:Sc β) (k:β→Sc R):Sc R
 |lp {R σ β:Type} (s0:σ) (fz:List Nat) (rn:List (Nat × Nat)) (t:Tg σ) (u:Tg β) (body:σ→Sc (dG σ (Ex β R))) (k:β→Sc R):Sc R
 |gr {R σ:Type} (b it c K V E:Nat) (l:List (Int × List Int)) (p:Int × List Int→Bool) (mb:Int × List Int→σ→Option (dG σ (Ex Empty R))) (hno: ∀x,p x=false→ ∀s,mb x s=some (.next s)) (x1:RX) (cs1:List Cs) (t:Tg σ) (s0:σ) (fz:List Nat) (rn:List (Nat × Nat)) (body:Int × List Int→σ→Sc (dG σ (Ex Empty R))) (k:σ→Sc R):Sc R
inductive Tr:Type→Type 1 where
 |bad {R:Type} (m:Nat):Tr R
 |no {R:Type}:Tr R
 |en {R:Type} (r:R):Tr R
 |ck {R:Type} (c:CP) (t:Tr R):Tr R
 |bd {R T:Type} (o:Option T) (k:T→Tr R):Tr R
 |as {R:Type} (c:Prop) (d:Decidable c) (k:Tr R):Tr R
 |it {R:Type} (b:Bool) (x y:Tr R):Tr R
 |jn {R β:Type} (a:Tr (Ex β R)) (k:β→Tr R):Tr R
 |jN {R β:Type} (a:Tr β) (k:β→Tr R):Tr R
 |lp {R σ β:Type} (s0:σ) (body:σ→Tr (dG σ (Ex β R))) (k:β→Tr R):Tr R
 |sp {R σ β:Type} (s0:σ) (a:Tr Unit) (body:σ→Tr (dG σ (Ex β R))) (k:β→Tr R):Tr R
 |gr {R σ:Type} (l:List (Int × List Int)) (p:Int × List Int→Bool) (mb:Int × List Int→σ→Option (dG σ (Ex Empty R))) (s0:σ) (body:Int × List Int→σ→Tr (dG σ (Ex Empty R))) (k:σ→Tr R):Tr R
def Tr.den:{R:Type}→Tr R→Option R
 |_, .bad _=>none
 |_, .no=>none
 |_, .en r=>some r
 |_, .ck _ t=>t.den
 |_, .bd o k=>Option.bind o fun y=>(k y).den
 |_, .as c d k=> @bn _ c d k.den
 |_, .it b x y=>bif b then x.den else y.den
 |_, .jn a k=>Option.bind a.den fun o=>match o with| .ret v=>some v| .brk z=>(k z).den
 |_, .jN a k=>Option.bind a.den fun z=>(k z).den
 |_, .lp s0 body k=>Option.bind (aW (fun s=>(body s).den) FUEL s0) fun o=>match o with| .ret v=>some v| .brk z=>(k z).den
 |_, .sp s0 a body k=>Option.bind a.den fun _=>Option.bind (aW (fun s=>(body s).den) FUEL s0) fun o=>match o with| .ret v=>some v| .brk z=>(k z).den
 |_, .gr l p mb s0 _ k=>Option.bind (goG l p mb s0) fun o=>match o with| .ret v=>some v| .brk z=>(k z).den
def Tr.ok:{R:Type}→Tr R→Prop
 |_, .bad _=>False
 |_, .no=>True
 |_, .en _=>True
 |_, .ck c t=>c.ok∧t.ok
 |_, .bd _ k=> ∀y,(k y).ok
 |_, .as _ _ k=>k.ok
 |_, .it _ x y=>x.ok∧y.ok
 |_, .jn a k=>a.ok∧ ∀z,(k z).ok
 |_, .jN a k=>a.ok∧ ∀z,(k z).ok
 |_, .lp _ body k=>(∀s,(body s).ok)∧ ∀z,(k z).ok
 |_, .sp _ a body k=>a.ok∧(∀s,(body s).ok)∧ ∀z,(k z).ok
 |_, .gr _ _ mb _ body k=>(∀x s,(body x s).ok∧(body x s).den=mb x s)∧ ∀z,(k z).ok
inductive Sd:Type 1 where
 |bad (b:Bool)
 |nil
 |ck (x:Ck) (t:Sd)
 |fn {T:Type} (f:T→Sd)
 |two (x y:Sd)
 |md {T:Type} (o:Option T)
def CP.side (b:Bool):CP→Sd→Sd
 |[],t=>t
 |p::l,t=> .ck (bif b then p.1 else p.2) (CP.side b l t)
def Tr.side (b:Bool):{R:Type}→Tr R→Sd
 |_, .bad _=> .bad b
 |_, .no=> .nil
 |_, .en _=> .nil
 |_, .ck c t=>c.side b (t.side b)
 |_, .bd _ k=> .fn fun y=>(k y).side b
 |_, .as _ _ k=>k.side b
 |_, .it _ x y=> .two (x.side b) (y.side b)
 |_, .jn a k=> .two (a.side b) (.fn fun z=>(k z).side b)
 |_, .jN a k=> .two (a.side b) (.fn fun z=>(k z).side b)
 |_, .lp _ body k=> .two (.fn fun s=>(body s).side b) (.fn fun z=>(k z).side b)
 |_, .sp _ a body k=> .two (a.side b) (.two (.fn fun s=>(body s).side b) (.fn fun z=>(k z).side b))
 |_, .gr _ _ mb _ body k=> .two (.fn fun x=> .fn fun s=> .two ((body x s).side b) (.md (bif b then(body x s).den else mb x s))) (.fn fun z=>(k z).side b)
theorem CP.oM: ∀{c:CP} {t t':Sd},c.side true t=c.side false t'→c.ok∧t=t'
 |[],_,_,h=> ⟨trivial,h⟩
 |p::l,t,t',h=>by
  simp only [CP.side,cond_true,cond_false,Sd.ck.injEq]at h
  have:=CP.oM h.2
  exact⟨⟨h.1,this.1⟩,this.2⟩
theorem Sd.uR {T:Type} {f g:T→Sd} (h:Sd.fn f=Sd.fn g): ∀y,f y=g y:=by
 simp only [Sd.fn.injEq,heq_eq_eq,true_and]at h
 exact fun y=>congrFun h y
theorem Sd.Vp {T:Type} {a b:Option T} (h:Sd.md a=Sd.md b):a=b:=by
 simp only [Sd.md.injEq,heq_eq_eq,true_and]at h
 exact h
theorem Tr.oM: ∀{R:Type} {t:Tr R},t.side true=t.side false→t.ok:=by
 intro R t
 induction t with
 |bad _=>intro h;simp [Tr.side]at h
 |no=>intro _;trivial
 |en _=>intro _;trivial
 |ck c t ih=>intro h;have:=CP.oM h;exact⟨this.1,ih this.2⟩
 |bd o k ih=>intro h y;exact ih y (Sd.uR h y)
 |as c d k ih=>intro h;exact ih h
 |it b x y ihx ihy=>intro h;simp only [Tr.side,Sd.two.injEq]at h;exact⟨ihx h.1,ihy h.2⟩
 |jn a k iha ihk=>intro h;simp only [Tr.side,Sd.two.injEq]at h;exact⟨iha h.1,fun z=>ihk z (Sd.uR h.2 z)⟩
 |jN a k iha ihk=>intro h;simp only [Tr.side,Sd.two.injEq]at h;exact⟨iha h.1,fun z=>ihk z (Sd.uR h.2 z)⟩
 |lp s0 body k ihb ihk=>intro h;simp only [Tr.side,Sd.two.injEq]at h;exact⟨fun s=>ihb s (Sd.uR h.1 s),fun z=>ihk z (Sd.uR h.2 z)⟩
 |sp s0 a body k iha ihb ihk=>intro h;simp only [Tr.side,Sd.two.injEq]at h;exact⟨iha h.1,fun s=>ihb s (Sd.uR h.2.1 s),fun z=>ihk z (Sd.uR h.2.2 z)⟩
 |gr l p mb s0 body k ihb ihk=>
  intro h
  simp only [Tr.side,Sd.two.injEq]at h
  refine⟨fun x s=> ?_,fun z=>ihk z (Sd.uR h.2 z)⟩
  have h1:=Sd.uR (Sd.uR h.1 x) s
  simp only [Sd.two.injEq]at h1
  exact⟨ihb x s h1.1,Sd.Vp h1.2⟩
def WB:Option TV→Option Bool
 |some (.v (.one (.d (.bool b))))=>some b
 |_=>none
theorem Lj {x:Option TV} {b:Bool} (h:WB x=some b):x=some (.v (.one (.d (.bool b)))):=by
 unfold WB at h
 split at h
 ·cases h;rfl
 ·cases h
structure FnI (R:Type) where
 T:List (Nat × TI)
 rs:List ResultVar
 res:R→TV
 hout:R→List (Nat × Option Ob)
def Po.VK:{R:Type}→Po R→Option (FnI R)
 |_, .fn T rs res hout=>some ⟨T,rs,res,hout⟩
 |_,_=>none
theorem Po.Uq {R:Type} {po:Po R} {o:FnI R} (h:po.VK=some o):po= .fn o.T o.rs o.res o.hout:=by
 cases po<;>first|(cases h;rfl)|cases h
structure Ty where
 T:Nat
 t1:Nat
 t2:Nat
 t2a:Nat
 t3:Nat
 t3a:Nat
 t4:Nat
 t2b:Nat
 t5:Nat
 t5a:Nat
 t6:Nat
 t5b:Nat
 t7:Nat
def I6 (o:Oper):Option (Nat × Nat × Nat):=match o with
 |⟨some d, .range T (.tmp t),_,_,_,none⟩=>some (T,t,d)
 |_=>none
theorem MS {o:Oper} {T t d:Nat} (h:I6 o=some (T,t,d)):o.op= .range T (.tmp t)∧o.guard=none∧o.dst=some d:=by
 unfold I6 at h
 split at h
 ·cases h;exact⟨rfl,rfl,rfl⟩
 ·cases h
def Mw (o:Oper):Option (Nat × Nat):=match o with
 |⟨some d, .next (.tmp t) false,_,_,_,none⟩=>some (t,d)
 |_=>none
theorem O0 {o:Oper} {t d:Nat} (h:Mw o=some (t,d)):o.op= .next (.tmp t) false∧o.guard=none∧o.dst=some d:=by
 unfold Mw at h
 split at h
 ·cases h;exact⟨rfl,rfl,rfl⟩
 ·cases h
def KH (k:Nat) (o:Oper):Option (Nat × Nat):=match o with
 |⟨some d, .extract (.tmp t) k',_,_,_,none⟩=>bif Nat.beq k' k then some (t,d)else none
 |_=>none
theorem E8 {k:Nat} {o:Oper} {t d:Nat} (h:KH k o=some (t,d)):o.op= .extract (.tmp t) k∧o.guard=none∧o.dst=some d:=by
 unfold KH at h
 split at h
 ·rename_i k' _ _ _
  cases hb:Nat.beq k' k with
  |true=>rw [hb]at h;cases h;rw [Nat.eq_of_beq_eq_true hb];exact⟨rfl,rfl,rfl⟩
  |false=>rw [hb]at h;cases h
 ·cases h
def Ru (o:Oper):Option (Nat × Nat):=match o with
 |⟨some d, .entry (.tmp t),_,_,_,none⟩=>some (t,d)
 |_=>none
theorem Qw {o:Oper} {t d:Nat} (h:Ru o=some (t,d)):o.op= .entry (.tmp t)∧o.guard=none∧o.dst=some d:=by
 unfold Ru at h
 split at h
 ·cases h;exact⟨rfl,rfl,rfl⟩
 ·cases h
def EZ (T:List (Nat × TI)) (t:Nat):Bool:=match get T t with
 |some ti=>match ti.d with| .map _ _=>true|_=>false
 |none=>false
def YR (T:List (Nat × TI)) (ops1 ops2 ops3:Array Oper):Option Ty:=
 match ops1[ops1.size - 1]?,ops2.toList,ops3[0]?,ops3[1]?,ops3[2]? with
 |some o1,[o2,o3],some p0,some p1,some p2=>
  match I6 o1,Mw o2,KH 0 o3,Ru p0,KH 0 p1,KH 1 p2 with
  |some (T1,t1,t2),some (t2a,t3),some (t3a,t4),some (t2b,t5),some (t5a,t6),some (t5b,t7)=>bif EZ T T1 then some ⟨T1,t1,t2,t2a,t3,t3a,t4,t2b,t5,t5a,t6,t5b,t7⟩else none
  |_,_,_,_,_,_=>none
 |_,_,_,_,_=>none
def ZT (N c it X X' t4:Nat) (g:Ty):Bool:=
 Tk N g.t1 g.t2 g.t3 g.t4 g.t5 g.t6 g.t7 && (Nat.beq g.t2a g.t2 && (Nat.beq g.t3a g.t3 && (Nat.beq g.t4 t4 && (Nat.beq g.t2b g.t2 && (Nat.beq g.t5a g.t5 && (Nat.beq g.t5b g.t5 && (Nat.beq X' X && (!(Nat.beq c it) && !(Nat.beq g.t4 g.t5)))))))))
def YO (b it:Nat) (l:List (Int × List Int)) (K V E:Nat) (g:Ty) (st:St):Option CP:=
 match get st.slots g.t1,get st.heap b,get st.heap it with
 |some tv,some ob,none=>some [(.tv tv, .tv (.v (.one (.mp b)))),(.ob ob, .ob (some (.gm K V E l none)))]
 |_,_,_=>none
def sU (it:Nat) (g:Ty) (st:St):St:=⟨(g.t2,vP it 0)::st.slots,(it,none)::st.heap⟩
def XZ (b it c:Nat) (l:List (Int × List Int)) (K V E:Nat) (g:Ty) (st:St):Option CP:=
 match get st.slots g.t2,get st.slots g.t3,get st.slots g.t5,get st.heap b,get st.heap c with
 |some tv,none,none,some ob,none=>some [(.tv tv, .tv (vP it 0)),(.ob ob, .ob (some (.gm K V E l none)))]
 |_,_,_,_,_=>none
def V7 (b c:Nat) (l:List (Int × List Int)) (K V E:Nat) (g:Ty) (st:St) (x:Int × List Int):St:=
 ⟨(g.t7, .v (.one (.own c false x.2.length)))::(g.t6,vI x.1)::(g.t4,vB true)::st.slots,(b,some (.gm K V E l (some (x.1, .own c false x.2.length))))::(c,some (.arr E 1 x.2.length (AB x.2)))::st.heap⟩
section
variable (q:Bool) (P:Program) (T:List (Nat × TI)) (N:Nat)
def Qf (Γ:List Prop) (outs:List Code) (stt:Nat):Option Nat→List Cs→Option (CP × Exit)
 |none,[]=>some ([(.n stt, .n 0)], .normal)
 |none,c::_=>some ((.p (Nat.beq stt 0=true), .p (Ye Γ c))::WK Γ c, .normal)
 |some k,cs=>match outs[k]? with
  |some o=>bif CB o then(match cs with
   |[]=>some ([(.n stt, .n (k+2))],Bl o)
   |c::_=>some ((.p (Nat.beq stt (k+2)=true), .p (Ye Γ c))::WK Γ c,Bl o))else none
  |none=>none
def ZW (st:St) (g:Operand):Option (TV × FuncId × List CV × List CV):=
 match BJ st g with
 |some gv=>match Uc gv with|some (f,c1,c2)=>some (gv,f,c1,c2)|none=>none
 |none=>none
def isNone {α:Type}:Option α→Bool
 |none=>true
 |_=>false
def IG (N:Nat) (lb:Nat) (sl:List Nat) (outs:List Code) (w:Option Nat) (jf:Nat) (c:List Cs) (g:Operand) (ps:Array Nat) (assign body:Code) (st:St) (Γ:List Prop) (an:List (Nat × mR)):Option (CP × Exit × St):=
 match ZW st g with
 |some (_,f,c1,c2)=>
  match get an 0 with
  |some (.call ids res hout)=>
   let hp:=(lb,some (.loop ⟨ps.toList,assign,body,N,outs⟩ 0 (Jj st.slots sl)))::st.heap
   match bW ids (ids.map (aT hp)),get hout lb with
   |some hin,some (some (.loop r' stt _))=>match Qf Γ outs stt w c with
    |some (ck,e)=>some ((.b (isNone (get st.heap lb)), .b true)::
      (.b (aN ((c1++CV.yl lb::c2).flatMap CV.aI) ids && aN (gD (ids.map (aT hp))) ids && iN ids (hout.map (·.1)) ((hout.map (·.1)).map (aT hp))), .b true)::
      (.p (Fn P f ((c1++CV.yl lb::c2).map .one) hin res hout), .p (fact Γ jf))::(.co r'.outs, .co outs)::ck,e,⟨st.slots,(lb,none)::(hout++(ids.map (fun i=>(i,none))++st.heap))⟩)
    |none=>none
   |_,_=>none
  |_=>none
 |none=>none
def tr:{R:Type}→Sc R→List Nat→YD→St→List Prop→List (Nat × mR)→Po R→Tr R
 |_, .en r fz rn=>fun L f st _ _ po=>match f with
  | .fin e=>match leaf L fz rn po e r st with|some c=> .ck c (.en r)|none=> .bad 1
  |_=> .bad 2
 |_, .no=>fun _ _ _ _ _ _=> .no
 |_, .rg x cs k=>fun L f st Γ an po=>match f with
  | .at (.region _ ops dr) K=>match Ui (CF P) T ops dr N L x an st with
   |some R=>match nG R.yb x.ov Γ R.its (Ml R.its cs)with
    |some c=> .ck ((.b R.ok, .b true)::(UH R.eq++c)) (tr k L (go FU (.e .normal) K) R.st Γ [] po)
    |none=> .bad 3
   |none=> .bad (4000+XJ (CF P) T ops.toList (fun _=>false) (Yq x.ov) (Gl x an) (PS x.fr) N (List.range ops.size) (vC st))
  |_=> .bad 5
 |_, .bd o q _ an' k=>fun L f st Γ an po=> .bd o fun y=>tr (k y) L f st (q y::Γ) (an' y++an) po
 |_, .as c d l _ k=>fun L f st Γ an po=> .as c d (tr k L f st (l++Γ) an po)
 |_, .it a b=>fun L f st Γ an po=>match f with
  | .at (.cond c x y) K=>match WB (BJ st c)with
   |some v=> .it v (tr a L (go FU (.c x) K) st ((v=true)::Γ) an po) (tr b L (go FU (.c y) K) st ((v=false)::Γ) an po)
   |none=> .bad 6
  |_=> .bad 7
 |_, .tf v cs k=>fun L f st Γ an po=>match f with
  | .at (.cond c x y) K=>match WB (BJ st c)with
   |some w=> .ck (match cs with|[]=>[(.b w, .b v)]|j::_=>(.p (w=v), .p (Ye Γ j))::WK Γ j) (tr k L (go FU (.c (bif v then x else y)) K) st Γ an po)
   |none=> .bad 8
  |_=> .bad 9
 |_, .fk v a b=>fun L f st Γ an po=> .it v (tr a L f st ((v=true)::Γ) an po) (tr b L f st ((v=false)::Γ) an po)
 |_, .im s k=>fun L f st Γ an po=>match F8 (s.act st) (s.want st)with
  |some c=> .ck c (tr k L f (s.nxt st) Γ an po)
  |none=> .bad 10
 |_, .wi j s k=>fun L f st Γ an po=>match F8 (s.act st) (s.want st)with
  |some c=> .ck ((.p (fact Γ j), .p s.p)::c) (tr k L f (s.nxt st) Γ an po)
  |none=> .bad 18
 |_, .ul n k=>fun L f st Γ an po=>match f with
  | .at (.loop c) K=>tr k L (go FU (.c c) (.lo c n::K)) st Γ an po
  |_=> .bad 19
 |_, .ss k=>fun L f st Γ an po=>match f with
  | .at (.scope c) K=>tr k L (go FU (.c c) (.sc::K)) st Γ an po
  |_=> .bad 20
 |_, .sp s0 t u a body k=>fun L f st Γ an po=>match f with
  | .at (.scope (.seq x (.seq (.label l) y))) K=>match findLabel x l with
   |none=> .sp s0 (tr a L (go FU (.c x) []) st Γ an (.jN fun _=>t.at st s0)) (fun s=>tr (body s) L (go FU (.c y) []) (t.at st s) Γ [] (.gt l K (t.at st) (u.at st) po)) fun z=>tr (k z) L (go FU (.e .normal) K) (u.at st z) Γ [] po
   |some _=> .bad 21
  |_=> .bad 22
 |_, .rf lb sl outs w jf c k=>fun L f st Γ an po=>match q,f with
  |true, .at (.rangeFunc g ps assign body) K=>match IG P N lb sl outs w jf c g ps assign body st Γ an with
   |some (ck,e,st')=> .ck ck (tr k L (go FU (.e e) K) st' Γ [] po)
   |none=> .bad 23
  |_,_=> .bad 24
 |_, .fz l k=>fun L f st Γ an po=>match OZ L l (Aj (nV st.slots) []) (Aj (nV st.heap) []) (vC st)with
  |some (e,s1)=> .ck (UH e) (tr k L f s1 Γ an po)
  |none=> .bad 11
 |_, .jn d t a k=>fun L f st Γ an po=>match f with
  | .at c K=>match K.drop d with
   | .sq y::K2=> .jn (tr a L (.at c (K.take d)) st Γ an (.jn K2 (t.at st) po)) fun z=>tr (k z) L (go FU (.c y) K2) (t.at st z) Γ [] po
   |_=> .bad 12
  |_=> .bad 13
 |_, .jN d t a k=>fun L f st Γ an po=>match f with
  | .at c K=>match K.drop d with
   | .sq y::K2=> .jN (tr a L (.at c (K.take d)) st Γ an (.jN (t.at st))) fun z=>tr (k z) L (go FU (.c y) K2) (t.at st z) Γ [] po
   |_=> .bad 14
  |_=> .bad 15
 |_, .lp s0 fz rn t u body k=>fun L f st Γ an po=>match f with
  | .at (.loop c) (.bl b::K2)=>match narrow L fz rn (t.at st s0) st with
   |some ck=> .ck ck (.lp s0 (fun s=>tr (body s) L (go FU (.c c) []) (t.at st s) Γ [] (.lp b K2 (t.at st) (u.at st) po)) fun z=>tr (k z) L (go FU (.e .normal) K2) (u.at st z) Γ [] po)
   |none=> .bad 16
  |_=> .bad 17
 |_, .gr b it c K0 V0 E0 l p mb _ x1 cs1 t s0 fz rn body k=>fun L f st Γ an po=>match f with
  | .at (.seq (.region _ ops1 false) (.block X (.loop (.seq (.region _ ops2 false) (.seq (.cond (.tmp t4) .skip (.exit X')) (.block Y (.seq (.region _ ops3 false) bd))))))) K=>match po.VK,YR T ops1 ops2 ops3 with
   |some o,some g=>match M0 (CF P) T ops1 N L (List.range (ops1.size - 1)) x1 an st with
    |some R1=>match nG R1.yb x1.ov Γ R1.its (Ml R1.its cs1),YO b it l K0 V0 E0 g R1.st,narrow (it::b::L) fz rn (t.at (sU it g R1.st) s0) (sU it g R1.st)with
     |some c1,some c2,some c3=> .ck ((.b (ZT N c it X X' t4 g), .b true)::(UH R1.eq++(c1++(c2++c3)))) (.gr l p mb s0 (fun x s=>
       match XZ b it c l K0 V0 E0 g (t.at (sU it g R1.st) s),M0 (CF P) T ops3 N (it::b::L) ((List.range ops3.size).drop 3) {} [] (V7 b c l K0 V0 E0 g (t.at (sU it g R1.st) s) x)with
       |some c4,some R3=>match nG R3.yb [] [] R3.its (Ml R3.its [])with
        |some c5=> .ck (c4++(UH R3.eq++c5)) (tr (body x s) (it::b::L) (go FU (.c bd) [.bl Y]) R3.st [rT x.1 l=x.2] [] (.gb L (t.at (sU it g R1.st)) o.T o.rs o.res o.hout))
        |none=> .bad 30
       |_,_=> .bad 31) fun s=>tr (k s) L (go FU (.e .normal) K) ⟨(t4,vB false)::(t.at (sU it g R1.st) s).slots,(t.at (sU it g R1.st) s).heap⟩ Γ [] po)
     |_,_,_=> .bad 32
    |none=> .bad 33
   |_,_=> .bad 34
  |_=> .bad 35
end
section
variable {rd:Option Nat} {q:Bool} {P:Program} {B:Base} {N:Nat} {L:List Nat} {T:List (Nat × TI)}
theorem EC {α:Type} {l:List (Nat × α)}: ∀{ks:List Nat},∀p∈Jj l ks,get l p.1=some p.2
 |[],p,h=>by simp [Jj]at h
 |k::ks,p,h=>by
  unfold Jj at h
  split at h
  ·rename_i x e
   rcases List.mem_cons.1 h with rfl|h
   ·exact e
   ·exact EC p h
  ·exact EC p h
theorem Q9 {Γ:List Prop} (hΓ:All Γ) {outs:List Code} {stt:Nat} {w:Option Nat} {cs:List Cs} {ck:CP} {e:Exit} (h:Qf Γ outs stt w cs=some (ck,e)) (hc:ck.ok):Py outs stt e:=by
 unfold Qf at h
 split at h
 ·cases h;exact .inl ⟨Ck.n.inj hc.1,rfl⟩
 ·cases h
  obtain⟨h1,h2⟩:=hc
  have:=IA hΓ h2
  rw [←Ck.p.inj h1]at this
  exact .inl ⟨Nat.eq_of_beq_eq_true this,rfl⟩
 ·rename_i k
  split at h
  ·rename_i o e1
   cases ho:CB o with
   |false=>rw [ho]at h;cases h
   |true=>
    rw [ho]at h
    simp only [cond_true]at h
    split at h
    ·cases h;exact .inr ⟨k,o,Ck.n.inj hc.1,e1,ho,rfl⟩
    ·cases h
     obtain⟨h1,h2⟩:=hc
     have:=IA hΓ h2
     rw [←Ck.p.inj h1]at this
     exact .inr ⟨k,o,Nat.eq_of_beq_eq_true this,e1,ho,rfl⟩
  ·cases h
theorem NI {lb:Nat} {sl:List Nat} {outs:List Code} {w:Option Nat} {jf:Nat} {c:List Cs} {g:Operand} {ps:Array Nat} {assign body:Code} {st st':St} {Γ:List Prop} {an:List (Nat × mR)} {ck:CP} {e:Exit} {Q:Exit→St→Prop} (hΓ:All Γ)
  (h:IG P N lb sl outs w jf c g ps assign body st Γ an=some (ck,e,st')) (hc:ck.ok) (hQ:Q e st'):lY none P B N L (.rangeFunc g ps assign body) Q st:=by
 unfold IG at h
 split at h
 ·rename_i gv f c1 c2 e0
  unfold ZW at e0
  split at e0
  ·rename_i gv' hg
   split at e0
   ·rename_i f' c1' c2' hf
    cases e0
    split at h
    ·rename_i ids res hout _
     simp only at h
     split at h
     ·rename_i hin r' stt sl' h1 h2
      split at h
      ·rename_i ck' e' h3
       cases h
       obtain⟨k1,k2,k3,k4,k5⟩:=hc
       have hfn:=qm (j:=jf) hΓ
       rw [←Ck.p.inj k3]at hfn
       have hn:get st.heap lb=none:=by
        have:=Ck.b.inj k1
        cases hh:get st.heap lb with
        |none=>rfl
        |some x=>rw [hh]at this;cases this
       have hp:ps=ps.toList.toArray:=by simp
       rw [hp]
       exact Gn lb (Jj st.slots sl) outs ids res hout hg hf hn (fun p hp=>EC p hp) h1 (Ck.b.inj k2) hfn h2 (Ck.co.inj k4) (Q9 hΓ h3 k5) hQ
      ·cases h
     ·cases h
    ·cases h
   ·cases e0
  ·cases e0
 ·cases h
theorem y9 {Q:Exit→St→Prop} {st:St} (h:Q .ret st): ∀{K:List Kf},post rd P B N L K Q .ret st
 |[]=>h
 | .sq _::K=>y9 (K:=K) h
 | .bl _::K=>y9 (K:=K) h
 | .lo _ _::K=>y9 (K:=K) h
 | .sc::K=> ⟨fun _=>Exit.noConfusion,y9 (K:=K) h⟩
theorem LJ {ops:Array Oper} {o:Oper} (h:ops[ops.size - 1]? =some o):List.range ops.size=List.range (ops.size - 1)++[ops.size - 1]:=by
 have:0<ops.size:=by
  rcases Nat.eq_zero_or_pos ops.size with h0|h0
  ·rw [h0]at h;simp [Array.getElem?_eq_none (show ops.size≤0 by omega)]at h
  ·exact h0
 have h1:ops.size=(ops.size - 1)+1:=by omega
 conv=>lhs;rw [h1]
 exact List.range_succ
theorem Kg {n:Nat} (h:2<n):List.range n=0::1::2::(List.range n).drop 3:=by
 apply List.ext_getElem?
 intro i
 match i with
 |0=>rw [List.getElem?_range (by omega)];rfl
 |1=>rw [List.getElem?_range (by omega)];rfl
 |2=>rw [List.getElem?_range (by omega)];rfl
 |i+3=>simp [Nat.add_comm]
theorem NS (hT:mI P T) {t:Nat} (h:EZ T t=true): ∃K V,P.underlying t=some (.map K V):=by
 unfold EZ at h
 split at h
 ·rename_i ti e
  split at h
  ·rename_i K V e2
   exact⟨K,V,by rw [(hT.get e).1,e2]⟩
  ·cases h
 ·cases h
theorem V6 {ops1 ops2 ops3:Array Oper} {g:Ty} (h:YR T ops1 ops2 ops3=some g): ∃o1 o2 o3 p0 p1 p2,ops1[ops1.size - 1]? =some o1∧ops2= #[o2,o3]∧ops3[0]? =some p0∧ops3[1]? =some p1∧ops3[2]? =some p2∧
  (o1.op= .range g.T (.tmp g.t1)∧o1.guard=none∧o1.dst=some g.t2)∧(o2.op= .next (.tmp g.t2a) false∧o2.guard=none∧o2.dst=some g.t3)∧(o3.op= .extract (.tmp g.t3a) 0∧o3.guard=none∧o3.dst=some g.t4)∧
  (p0.op= .entry (.tmp g.t2b)∧p0.guard=none∧p0.dst=some g.t5)∧((p1.op= .extract (.tmp g.t5a) 0∧p1.guard=none∧p1.dst=some g.t6)∧(p2.op= .extract (.tmp g.t5b) 1∧p2.guard=none∧p2.dst=some g.t7))∧EZ T g.T=true:=by
 unfold YR at h
 split at h
 ·rename_i o1 o2 o3 p0 p1 p2 h1 h2 h3 h4 h5
  split at h
  ·rename_i a1 a2 a3 a4 a5 a6 a7 a8 a9 a10 a11 a12 a13 q1 q2 q3 q4 q5 q6
   cases hm:EZ T a1 with
   |false=>rw [hm]at h;cases h
   |true=>
    rw [hm]at h
    cases h
    exact⟨o1,o2,o3,p0,p1,p2,h1,by rw [←Array.toArray_toList (xs:=ops2),h2],h3,h4,h5,MS q1,O0 q2,E8 q3,Qw q4,⟨E8 q5,E8 q6⟩,hm⟩
  ·cases h
 ·cases h
theorem Vm {b it:Nat} {l:List (Int × List Int)} {K V E:Nat} {g:Ty} {st:St} {c:CP} (h:YO b it l K V E g st=some c) (hc:c.ok):get st.slots g.t1=some (.v (.one (.mp b)))∧get st.heap b=some (some (.gm K V E l none))∧get st.heap it=none:=by
 unfold YO at h
 split at h
 ·rename_i tv ob h1 h2 h3
  cases h
  obtain⟨c1,c2,_⟩:=hc
  rw [h1,h2,h3]
  exact⟨congrArg some (Ck.tv.inj c1),congrArg some (Ck.ob.inj c2),rfl⟩
 ·cases h
theorem Wp {b it cc:Nat} {l:List (Int × List Int)} {K V E:Nat} {g:Ty} {st:St} {c:CP} (h:XZ b it cc l K V E g st=some c) (hc:c.ok):get st.slots g.t2=some (vP it 0)∧get st.slots g.t3=none∧get st.slots g.t5=none∧get st.heap b=some (some (.gm K V E l none))∧get st.heap cc=none:=by
 unfold XZ at h
 split at h
 ·rename_i tv ob h1 h2 h3 h4 h5
  cases h
  obtain⟨c1,c2,_⟩:=hc
  rw [h1,h2,h3,h4,h5]
  exact⟨congrArg some (Ck.tv.inj c1),rfl,rfl,congrArg some (Ck.ob.inj c2),rfl⟩
 ·cases h
theorem Ey (hrd:q=true→rd=none) (hT:mI P T) (hm:P.follows .mixedOrders=true): ∀{R:Type} (s:Sc R) {B:Base} {L:List Nat} {f:YD} {st:St} {Γ:List Prop} {an:List (Nat × mR)} {po:Po R} {r:R},
  (tr q P T N s L f st Γ an po).ok→All Γ→(tr q P T N s L f st Γ an po).den=some r→X3 rd P B N L f (po.Q rd P B N L r) st:=by
 intro R s
 induction s with
 |en r fz rn=>
  intro B L f st Γ an po r' hk hΓ hd
  unfold tr at hk hd
  cases f with
  |fin e=>
   simp only at hk hd
   cases hl:leaf L fz rn po e r st with
   |none=>rw [hl]at hk;exact hk.elim
   |some c=>
    rw [hl]at hk hd
    cases hd
    exact TF hl hk.1
  | «at» c K=>exact hk.elim
  |bad=>exact hk.elim
 |no=>intro B L f st Γ an po r' hk hΓ hd;cases hd
 |rg x cs k ih=>
  intro B L f st Γ an po r' hk hΓ hd
  unfold tr at hk hd
  cases f with
  |fin e=>exact hk.elim
  |bad=>exact hk.elim
  | «at» c K=>
   cases c with
   |region id ops dr=>
    simp only at hk hd
    cases hR:Ui (CF P) T ops dr N L x an st with
    |none=>rw [hR]at hk;exact hk.elim
    |some R=>
     rw [hR]at hk hd
     simp only at hk hd
     cases hc:nG R.yb x.ov Γ R.its (Ml R.its cs)with
     |none=>rw [hc]at hk;exact hk.elim
     |some c=>
      rw [hc]at hk hd
      simp only at hk hd
      obtain⟨⟨h1,h2⟩,hk⟩:=hk
      rw [CP.gH]at h2
      refine Qr hT hm hR (Ck.b.inj h1) (zf h2.1) (BO hΓ hc h2.2) ?_
      exact go_ok (n:=FU) (x:= .e .normal) (ih (B:=B) hk hΓ hd)
   |_=>exact hk.elim
 |bd o q h an' k ih=>
  intro B L f st Γ an po r' hk hΓ hd
  unfold tr at hk hd
  cases o with
  |none=>cases hd
  |some y=>exact ih y (hk y) ⟨h y rfl,hΓ⟩ hd
 |as c d l hl k ih=>
  intro B L f st Γ an po r' hk hΓ hd
  unfold tr at hk hd
  exact QV (c:=c) hd fun hc hd=>ih hk (bA.2 ⟨hl hc,hΓ⟩) hd
 |it a b iha ihb=>
  intro B L f st Γ an po r' hk hΓ hd
  unfold tr at hk hd
  cases f with
  |fin e=>exact hk.elim
  |bad=>exact hk.elim
  | «at» c K=>
   cases c with
   |cond c x y=>
    simp only at hk hd
    cases hv:WB (BJ st c)with
    |none=>rw [hv]at hk;exact hk.elim
    |some v=>
     rw [hv]at hk hd
     simp only at hk hd
     refine yA v (Lj hv) (fun e=> ?_) fun e=> ?_
     ·refine go_ok (n:=FU) (x:= .c x) (iha hk.1 ⟨e,hΓ⟩ ?_)
      have hd':(bif v then _ else _)=some r':=hd
      rw [e]at hd';subst e;exact hd'
     ·refine go_ok (n:=FU) (x:= .c y) (ihb hk.2 ⟨e,hΓ⟩ ?_)
      have hd':(bif v then _ else _)=some r':=hd
      rw [e]at hd';subst e;exact hd'
   |_=>exact hk.elim
 |tf v cs k ih=>
  intro B L f st Γ an po r' hk hΓ hd
  unfold tr at hk hd
  cases f with
  |fin e=>exact hk.elim
  |bad=>exact hk.elim
  | «at» c K=>
   cases c with
   |cond c x y=>
    simp only at hk hd
    cases hv:WB (BJ st c)with
    |none=>rw [hv]at hk;exact hk.elim
    |some w=>
     rw [hv]at hk hd
     simp only at hk hd
     have hw:w=v:=by
      cases cs with
      |nil=>exact Ck.b.inj hk.1.1
      |cons j _=>
       obtain⟨h1,h2⟩:=hk.1
       have:=IA hΓ h2
       exact Ck.p.inj h1 ▸ this
     subst hw
     have:=go_ok (n:=FU) (x:= .c _) (ih (B:=B) hk.2 hΓ hd)
     refine yA w (Lj hv) (fun e=> ?_) fun e=> ?_
     ·subst e;exact this
     ·subst e;exact this
   |_=>exact hk.elim
 |fk v a b iha ihb=>
  intro B L f st Γ an po r' hk hΓ hd
  unfold tr at hk hd
  have hd':(bif v then _ else _)=some r':=hd
  cases v with
  |true=>exact iha hk.1 ⟨rfl,hΓ⟩ hd'
  |false=>exact ihb hk.2 ⟨rfl,hΓ⟩ hd'
 |im s k ih=>
  intro B L f st Γ an po r' hk hΓ hd
  unfold tr at hk hd
  cases hz:F8 (s.act st) (s.want st)with
  |none=>rw [hz]at hk;exact hk.elim
  |some c=>
   rw [hz]at hk hd
   have hi:=s.ok B N L st (Gc hz hk.1)
   have:=ih (B:=B) hk.2 hΓ hd
   cases f with
   | «at» c K=>exact wY hi this
   |fin e=>exact QI.imp hi this
   |bad=>exact this
 |wi j s k ih=>
  intro B L f st Γ an po r' hk hΓ hd
  unfold tr at hk hd
  cases hz:F8 (s.act st) (s.want st)with
  |none=>rw [hz]at hk;exact hk.elim
  |some c=>
   rw [hz]at hk hd
   have hp:s.p:=Ck.p.inj hk.1.1 ▸ qm hΓ
   have hi:=s.ok hp B N L st (Gc hz hk.1.2)
   have:=ih (B:=B) hk.2 hΓ hd
   cases f with
   | «at» c K=>exact wY hi this
   |fin e=>exact QI.imp hi this
   |bad=>exact this
 |ul n k ih=>
  intro B L f st Γ an po r' hk hΓ hd
  unfold tr at hk hd
  cases f with
  |fin e=>exact hk.elim
  |bad=>exact hk.elim
  | «at» c K=>
   cases c with
   |loop c=>
    have:=go_ok (n:=FU) (x:= .c c) (K:= .lo c n::K) (ih (B:=B) hk hΓ hd)
    exact Og (n+1) this
   |_=>exact hk.elim
 |ss k ih=>
  intro B L f st Γ an po r' hk hΓ hd
  unfold tr at hk hd
  cases f with
  |fin e=>exact hk.elim
  |bad=>exact hk.elim
  | «at» c K=>
   cases c with
   |scope c=>
    have:=go_ok (n:=FU) (x:= .c c) (K:= .sc::K) (ih (B:=B) hk hΓ hd)
    exact M9 this
   |_=>exact hk.elim
 |sp s0 t u a body k iha ihb ihk=>
  intro B L f st Γ an po r' hk hΓ hd
  unfold tr at hk hd
  split at hk
  ·rename_i x l y K
   simp only at hd
   split at hk
   ·rename_i hfl
    rw [hfl]at hd
    simp only at hd
    obtain⟨hka,hkb,hkk⟩:=hk
    unfold Tr.den at hd
    rw [Option.bind_eq_some_iff]at hd
    obtain⟨un,ha,hd⟩:=hd
    rw [Option.bind_eq_some_iff]at hd
    obtain⟨o,ho,hd⟩:=hd
    have h1:=go_ok (n:=FU) (x:= .c x) (K:=[]) (iha (B:=B) hka hΓ ha)
    have hc:lY rd P B N L (.scope (.seq x (.seq (.label l) y))) (fun e st1=>QI B N L ((Po.gt l K (t.at st) (u.at st) po).Q rd P B N L (.done o)) e st1) st:=by
     have hb: ∀s f,(tr q P T N (body s) L (go FU (.c y) []) (t.at st s) Γ [] (.gt l K (t.at st) (u.at st) po)).den=some f→lY rd P B N L y (GQ l (t.at st) (fun r e st1=>QI B N L ((Po.gt l K (t.at st) (u.at st) po).Q rd P B N L (.done r)) e st1) f) (t.at st s):=fun s fl hs=>by
      refine lq (fB (go_ok (n:=FU) (x:= .c y) (K:=[]) (ihb s (hkb s) hΓ hs)) fun e st1 hq=> ?_)
      obtain⟨s',hi,hq⟩:=hq
      refine⟨s',hi, ?_⟩
      cases fl with
      |next s2=>exact hq
      |done r=>
       refine⟨?_,s', .refl,hq⟩
       cases r with
       |brk z=>obtain⟨rfl,_⟩:=hq;exact fun _=>Exit.noConfusion
       |ret x=>exact hq.1
     refine Mt (rest:= .seq .skip y) l (by simp [findLabel,hfl]) (t.at st) (fun(r:Ex _ _) e st1=>QI B N L ((Po.gt l K (t.at st) (u.at st) po).Q rd P B N L (.done r)) e st1) ho (fun s fl hs=>BX (Lb (hb s fl hs))) fun fl hs=> ?_
     refine PK _ h1 fun e st' hh=> ?_
     obtain⟨s',hi,hq⟩:=hh
     obtain⟨rfl,rfl⟩:=hq
     exact wY hi (BX (G6 (hb s0 fl hs)))
    refine fB hc fun e st1 hq=> ?_
    obtain⟨s',hi,hq⟩:=hq
    refine lW hi ?_
    cases o with
    |brk z=>
     obtain⟨rfl,rfl⟩:=hq
     exact go_ok (n:=FU) (x:= .e .normal) (ihk z (hkk z) hΓ hd)
    |ret x=>
     cases hd
     exact hq.2.2
   ·exact hk.elim
  ·exact hk.elim
 |rf lb sl outs w jf c k ih=>
  intro B L f st Γ an po r' hk hΓ hd
  unfold tr at hk hd
  split at hk
  ·rename_i g ps assign body K
   simp only at hd
   cases hs:IG P N lb sl outs w jf c g ps assign body st Γ an with
   |none=>rw [hs]at hk;exact hk.elim
   |some x=>
    obtain⟨ck,e,st'⟩:=x
    rw [hs]at hk hd
    obtain rfl:=hrd rfl
    exact NI hΓ hs hk.1 (go_ok (n:=FU) (x:= .e e) (ih (B:=B) hk.2 hΓ hd))
  ·exact hk.elim
 |fz l k ih=>
  intro B L f st Γ an po r' hk hΓ hd
  unfold tr at hk hd
  cases hz:OZ L l (Aj (nV st.slots) []) (Aj (nV st.heap) []) (vC st)with
  |none=>rw [hz]at hk;exact hk.elim
  |some c=>
   obtain⟨e,s1⟩:=c
   rw [hz]at hk hd
   obtain⟨ren,hz⟩:=CK hz
   obtain⟨ts,cs',hf,hcs⟩:=qO hz (zf hk.1) [] trivial
   have hi:j3 B N L st s1:=j3.fin _ ts hf hcs
   have:=ih (B:=B) hk.2 hΓ hd
   cases f with
   | «at» c K=>exact wY hi this
   |fin e=>exact QI.imp hi this
   |bad=>exact this
 |jn d t a k iha ihk=>
  intro B L f st Γ an po r' hk hΓ hd
  unfold tr at hk hd
  cases f with
  |fin e=>exact hk.elim
  |bad=>exact hk.elim
  | «at» c K=>
   simp only at hk hd
   cases hK:K.drop d with
   |nil=>rw [hK]at hk;exact hk.elim
   |cons x K2=>
    cases x with
    |bl i=>rw [hK]at hk;exact hk.elim
    |lo _ _=>rw [hK]at hk;exact hk.elim
    |sc=>rw [hK]at hk;exact hk.elim
    |sq y=>
     rw [hK]at hk hd
     simp only at hk hd
     have hKe:K=K.take d++(.sq y::K2):=by rw [←hK];exact(List.take_append_drop d K).symm
     unfold Tr.den at hd
     rw [Option.bind_eq_some_iff]at hd
     obtain⟨o,ho,hd⟩:=hd
     have h1:=iha (B:=B) hk.1 hΓ ho
     show lY rd P B N L c (post rd P B N L K (QI B N L (po.Q rd P B N L r'))) st
     rw [hKe]
     refine fB h1 fun e st1 hq=>lZ (K2:= .sq y::K2) (fun e st1 hq=> ?_) hq
     obtain⟨s',hi,hq⟩:=hq
     refine lW (K:= .sq y::K2) hi ?_
     cases o with
     |brk z=>
      obtain⟨rfl,rfl⟩:=hq
      exact go_ok (n:=FU) (x:= .c y) (ihk z (hk.2 z) hΓ hd)
     |ret v=>
      cases hd
      obtain⟨hne,hq⟩:=hq
      cases e with
      |normal=>exact absurd rfl hne
      |_=>exact hq
 |jN d t a k iha ihk=>
  intro B L f st Γ an po r' hk hΓ hd
  unfold tr at hk hd
  cases f with
  |fin e=>exact hk.elim
  |bad=>exact hk.elim
  | «at» c K=>
   simp only at hk hd
   cases hK:K.drop d with
   |nil=>rw [hK]at hk;exact hk.elim
   |cons x K2=>
    cases x with
    |bl i=>rw [hK]at hk;exact hk.elim
    |lo _ _=>rw [hK]at hk;exact hk.elim
    |sc=>rw [hK]at hk;exact hk.elim
    |sq y=>
     rw [hK]at hk hd
     simp only at hk hd
     have hKe:K=K.take d++(.sq y::K2):=by rw [←hK];exact(List.take_append_drop d K).symm
     obtain⟨z,ho,hd⟩: ∃o,(tr q P T N a L (.at c (K.take d)) st Γ an (.jN (t.at st))).den=some o∧(tr q P T N (k o) L (go FU (.c y) K2) (t.at st o) Γ [] po).den=some r':=by
      have hd':Option.bind _ _=some r':=hd
      rw [Option.bind_eq_some_iff]at hd'
      exact hd'
     have h1:=iha (B:=B) hk.1 hΓ ho
     show lY rd P B N L c (post rd P B N L K (QI B N L (po.Q rd P B N L r'))) st
     rw [hKe]
     refine fB h1 fun e st1 hq=>lZ (K2:= .sq y::K2) (fun e st1 hq=> ?_) hq
     obtain⟨s',hi,hq⟩:=hq
     refine lW (K:= .sq y::K2) hi ?_
     obtain⟨rfl,rfl⟩:=hq
     exact go_ok (n:=FU) (x:= .c y) (ihk z (hk.2 z) hΓ hd)
 |lp s0 fz rn t u body k ihb ihk=>
  intro B L f st Γ an po r' hk hΓ hd
  unfold tr at hk hd
  cases f with
  |fin e=>exact hk.elim
  |bad=>exact hk.elim
  | «at» c K=>
   cases c with
   |loop c=>
    cases K with
    |nil=>exact hk.elim
    |cons x K2=>
     cases x with
     |sq y=>exact hk.elim
     |lo _ _=>exact hk.elim
     |sc=>exact hk.elim
     |bl b=>
      simp only at hk hd
      cases hn:narrow L fz rn (t.at st s0) st with
      |none=>rw [hn]at hk;exact hk.elim
      |some ck=>
       rw [hn]at hk hd
       simp only at hk hd
       obtain⟨hk0,hkb,hkk⟩:=hk
       unfold Tr.den Tr.den at hd
       rw [Option.bind_eq_some_iff]at hd
       obtain⟨o,ho,hd⟩:=hd
       refine wY (lu hn hk0) ?_
       refine fB (OM (t.at st) (fun(r:Ex _ _) e st1=>QI B N L ((Po.lp b K2 (t.at st) (u.at st) po).Q rd P B N L (.done r)) e st1) ho fun s fl hs=> ?_) fun e st1 hq=> ?_
       ·refine lq (fB (go_ok (n:=FU) (x:= .c c) (K:=[]) (ihb s (hkb s) hΓ hs)) fun e st1 hq=> ?_)
        obtain⟨s',hi,hq⟩:=hq
        refine⟨s',hi, ?_⟩
        cases fl with
        |next s2=>exact hq
        |done r=>
         refine⟨?_,s', .refl,hq⟩
         cases r with
         |brk z=>obtain⟨rfl,_⟩:=hq;exact Exit.noConfusion
         |ret x=>exact hq.1
       ·obtain⟨s',hi,hq⟩:=hq
        refine lW (K:= .bl b::K2) hi ?_
        cases o with
        |brk z=>
         obtain⟨rfl,rfl⟩:=hq
         show(bif Nat.beq b b then _ else _)
         rw [Nat.beq_refl]
         exact go_ok (n:=FU) (x:= .e .normal) (ihk z (hkk z) hΓ hd)
        |ret x=>
         cases hd
         obtain⟨h1,h2,hq⟩:=hq
         cases e with
         |normal=>exact absurd rfl h1
         |exit i=>
          show(bif Nat.beq i b then _ else _)
          rw [qA (fun e=>h2 (by rw [e]))]
          exact hq
         |goto l=>exact hq
         |ret=>exact hq
         |panic v=>exact hq
         |outgrown=>exact hq
   |_=>exact hk.elim
 |gr b it c K0 V0 E0 l p mb hno x1 cs1 t s0 fz rn body k ihb ihk=>
  intro B L f st Γ an po r' hk hΓ hd
  unfold tr at hk hd
  split at hk
  ·rename_i id1 ops1 X id2 ops2 t4 X' Y id3 ops3 bd K
   simp only at hd
   cases ho:po.VK with
   |none=>rw [ho]at hk;exact hk.elim
   |some o=>
   cases hg:YR T ops1 ops2 ops3 with
   |none=>rw [ho,hg]at hk;exact hk.elim
   |some g=>
   rw [ho,hg]at hk hd
   simp only at hk hd
   cases hR:M0 (CF P) T ops1 N L (List.range (ops1.size - 1)) x1 an st with
   |none=>rw [hR]at hk;exact hk.elim
   |some R1=>
   rw [hR]at hk hd
   simp only at hk hd
   cases h1:nG R1.yb x1.ov Γ R1.its (Ml R1.its cs1)with
   |none=>rw [h1]at hk;exact hk.elim
   |some c1=>
   cases h2:YO b it l K0 V0 E0 g R1.st with
   |none=>rw [h1,h2]at hk;exact hk.elim
   |some c2=>
   cases h3:narrow (it::b::L) fz rn (t.at (sU it g R1.st) s0) (sU it g R1.st)with
   |none=>rw [h1,h2,h3]at hk;exact hk.elim
   |some c3=>
   rw [h1,h2,h3]at hk hd
   simp only at hk hd
   obtain⟨⟨hk0,hkc⟩,hkb,hkk⟩:=hk
   rw [CP.gH,CP.gH,CP.gH]at hkc
   obtain⟨hkr,hkc1,hkc2,hkc3⟩:=hkc
   obtain⟨y1,cs1',hreg1,hcs1⟩:=Ni hR (zf hkr) (BO hΓ h1 hkc1)
   have hgo:=V6 hg
   obtain⟨o1,o2,o3,p0,p1,p2,e1,e2,e3,e4,e5,e6,e7,e8,e9,e10,e11⟩:=hgo
   have hgk:=Ck.b.inj hk0
   simp only [ZT,Bool.and_eq_true,Bool.not_eq_true']at hgk
   obtain⟨hmr,q1,q2,q3,q4,q5,q6,q7,q8,q9⟩:=hgk
   have q1:=Nat.eq_of_beq_eq_true q1
   have q2:=Nat.eq_of_beq_eq_true q2
   have q3:=Nat.eq_of_beq_eq_true q3
   have q4:=Nat.eq_of_beq_eq_true q4
   have q5:=Nat.eq_of_beq_eq_true q5
   have q6:=Nat.eq_of_beq_eq_true q6
   have q7:=Nat.eq_of_beq_eq_true q7
   subst q3 q7 e2
   have n1:c≠it:=fun e=>by rw [e,Nat.beq_refl]at q8;cases q8
   have n2:g.t4≠g.t5:=fun e=>by rw [e,Nat.beq_refl]at q9;cases q9
   obtain⟨m1,m2,m3⟩:=Vm h2 hkc2
   unfold Tr.den Tr.den at hd
   rw [Option.bind_eq_some_iff]at hd
   obtain⟨ob,hgo,hd⟩:=hd
   obtain⟨u1,u3,u2⟩:=NS hT e11
   have hf: ∀s,get (t.at (sU it g R1.st) s).slots g.t2=some (vP it 0)∧get (t.at (sU it g R1.st) s).slots g.t3=none∧get (t.at (sU it g R1.st) s).slots g.t5=none∧get (t.at (sU it g R1.st) s).heap b=some (some (.gm K0 V0 E0 l none))∧get (t.at (sU it g R1.st) s).heap c=none:=by
    intro s
    have h:=(hkb default s).1
    dsimp only at h
    cases hq:XZ b it c l K0 V0 E0 g (t.at (sU it g R1.st) s)with
    |none=>rw [hq]at h;exact h.elim
    |some c4=>
     rw [hq]at h
     cases hq3:M0 (CF P) T ops3 N (it::b::L) ((List.range ops3.size).drop 3) {} [] (V7 b c l K0 V0 E0 g (t.at (sU it g R1.st) s) default)with
     |none=>rw [hq3]at h;exact h.elim
     |some R3=>
      rw [hq3]at h
      simp only at h
      cases hq5:nG R3.yb [] [] R3.its (Ml R3.its [])with
      |none=>rw [hq5]at h;exact h.elim
      |some c5=>
       rw [hq5]at h
       simp only at h
       have h':=h.1
       rw [CP.gH]at h'
       exact Wp hq h'.1
   have hpo:=Po.Uq ho
   show lY rd P B N L (.seq (.region _ ops1 false) _) (post rd P B N L K (QI B N L (po.Q rd P B N L r'))) st
   subst hpo
   refine fB (KC (σ:=_) (ρ':=_) (fun s=>t.at (sU it g R1.st) s) R1.st (ops1:=ops1) (pre:=List.range (ops1.size - 1)) (n1:=ops1.size - 1) (LJ e1) (fun Q l2 hq=>Zm hT R1.st y1 hreg1 hcs1 hq)
    (s0:=s0) (r:=ob) (l:=l) (K:=K0) (V:=V0) (E:=E0) b it c p (fun x s=>(mb x s).map Ql) hgo (fun x hx s=>by rw [hno x hx s];rfl)
    (t1:=g.t1) (t2:=g.t2) (t3:=g.t3) (t4:=g.t4) (t5:=g.t5) (t6:=g.t6) (t7:=g.t7) (X:=X') (Y:=Y) (T:=g.T) (K0:=u1) (V0:=u3) (o1:=o1) (o2:=o2) (o3:=o3) (p0:=p0) (p1:=p1) (p2:=p2) (ops:=ops3) ((List.range ops3.size).drop 3)
    (BODY:=bd) (Q:=fun e st'=>match ob with| .brk s=>e= .normal∧st'=⟨(g.t4,vB false)::(t.at (sU it g R1.st) s).slots,(t.at (sU it g R1.st) s).heap⟩| .ret x=>e= .ret∧ ∃s',j3 B N L st' s'∧D6 o.T o.rs (o.res x) (o.hout x) .ret s')
    m1 m2 m3 n1 (fun B'=>lu h3 hkc3) hf (fun B' x s fl hx0 hfl=> ?_) (fun s hs=> ?_) ?_ ?_ hmr n2) fun e st' hq=> ?_
   rotate_right
   ·cases ob with
    |brk s=>
     obtain⟨rfl,rfl⟩:=hq
     exact go_ok (n:=FU) (x:= .e .normal) (ihk s (hkk s) hΓ hd)
    |ret x=>
     cases hd
     obtain⟨rfl,s',hi,hq⟩:=hq
     exact y9 ⟨s',hi,hq⟩
   ·obtain⟨hbo,hbd⟩:=hkb x s
    dsimp only at hbo hbd
    cases h4:XZ b it c l K0 V0 E0 g (t.at (sU it g R1.st) s)with
    |none=>rw [h4]at hbo;exact hbo.elim
    |some c4=>
    cases h5:M0 (CF P) T ops3 N (it::b::L) ((List.range ops3.size).drop 3) {} [] (V7 b c l K0 V0 E0 g (t.at (sU it g R1.st) s) x)with
    |none=>rw [h4,h5]at hbo;exact hbo.elim
    |some R3=>
    rw [h4,h5]at hbo hbd
    simp only at hbo hbd
    cases h6:nG R3.yb [] [] R3.its (Ml R3.its [])with
    |none=>rw [h6]at hbo;exact hbo.elim
    |some c5=>
    rw [h6]at hbo hbd
    simp only at hbo hbd
    obtain⟨hb1,hb2⟩:=hbo
    rw [CP.gH,CP.gH]at hb1
    obtain⟨y3,cs3',hreg3,hcs3⟩:=Ni h5 (zf hb1.2.1) (BO (Γ:=[]) trivial h6 hb1.2.2)
    cases hmb:mb x s with
    |none=>rw [hmb]at hfl;cases hfl
    |some fl0=>
    rw [hmb]at hfl hbd
    have hw:=ihb x s (B:=B') hb2 ⟨hx0,trivial⟩ hbd
    have hw:=go_ok (n:=FU) (x:= .c bd) (K:=[.bl Y]) hw
    refine rwp hT R3.st y3 hreg3 hcs3 .refl (lq (fB hw fun e st1 hq=> ?_))
    have hfl:Ql fl0=fl:=Option.some.inj hfl
    subst hfl
    have key: ∃e',(e'=e∨(e= .exit Y∧e'= .normal))∧QI B' N (it::b::L) ((Po.gb L (t.at (sU it g R1.st)) o.T o.rs o.res o.hout).Q rd P B' N (it::b::L) fl0) e' st1:=by
     cases e with
     |exit i=>
      have hq:(bif Nat.beq i Y then _ else _):=hq
      cases hb:Nat.beq i Y with
      |true=>rw [hb]at hq;exact⟨_, .inr ⟨by rw [Nat.eq_of_beq_eq_true hb],rfl⟩,hq⟩
      |false=>rw [hb]at hq;exact⟨_, .inl rfl,hq⟩
     |_=>exact⟨_, .inl rfl,hq⟩
    obtain⟨e',he,s',hi,hq⟩:=key
    refine⟨s',hi, ?_⟩
    cases fl0 with
    |next s2=>
     obtain⟨rfl,rfl⟩:=hq
     exact⟨by rcases he with h|h;exact .inl h.symm;exact .inr h.1,rfl⟩
    |done r0=>
     cases r0 with
     |brk z=>exact z.elim
     |ret v=>
      obtain⟨rfl,hqr⟩:=hq
      rcases he with h|h
      ·subst h
       refine⟨⟨Exit.noConfusion,Exit.noConfusion,Exit.noConfusion⟩,fun hr=> ?_⟩
       subst hr
       exact⟨rfl,hqr B⟩
      ·cases h.2
   ·subst hs
    exact⟨rfl,rfl⟩
   ·exact u2
   ·exact⟨⟨e1,e6.1,e6.2.1,e6.2.2⟩,⟨by rw [e7.1,q1],e7.2.1,e7.2.2⟩,⟨by rw [e8.1,q2],e8.2.1,e8.2.2⟩,⟨by rw [e9.1,q4],e9.2.1,e9.2.2⟩,⟨by rw [e10.1.1,q5],e10.1.2.1,e10.1.2.2⟩,⟨by rw [e10.2.1,q6],e10.2.2.1,e10.2.2.2⟩,Kg (by rcases Nat.lt_or_ge 2 ops3.size with h|h;exact h;rw [Array.getElem?_eq_none h]at e5;cases e5),e3,e4,e5⟩
  ·exact hk.elim
end
structure bX (P:Program) (f:Nat) (args:List SV) (hin:List (Nat × Option Ob)) {R:Type} (res:R→TV) (hout:R→List (Nat × Option Ob)) (o:Option R):Prop where
 run: ∀{r:R},o=some r→Fn P f args hin (res r) (hout r)
instance {P:Program} {f:Nat} {args:List SV} {hin:List (Nat × Option Ob)} {R:Type} {res:R→TV} {hout:R→List (Nat × Option Ob)} {o:Option R}:CoeFun (bX P f args hin res hout o) (fun _=> ∀{r:R},o=some r→Fn P f args hin (res r) (hout r)):=⟨fun h=>h.run⟩
section
variable {P:Program} {T:List (Nat × TI)}
theorem dm (hT:mI P T) (hm:P.follows .mixedOrders=true) {f:Nat} {fn:Func} {args:List SV} {hin:List (Nat × Option Ob)} {R:Type} {res:R→TV} {hout:R→List (Nat × Option Ob)} {o:Option R} (hf:P.funcs[f]? =some fn) (s:Sc R)
  (hb:fn.body=some (kS fn):=by kernel_rfl) (hn:(fn.name== "runtime.NumGoroutine")=false:=by kernel_rfl)
  (hs:(tr true P T (args.length+(fn.ntmps - args.length)) s (hin.map (·.1)) (go FU (.c (kS fn)) []) ⟨slotsOf 0 args,hin⟩ [] [] (.fn T fn.results.toList res hout)).side true=(tr true P T (args.length+(fn.ntmps - args.length)) s (hin.map (·.1)) (go FU (.c (kS fn)) []) ⟨slotsOf 0 args,hin⟩ [] [] (.fn T fn.results.toList res hout)).side false:=by kernel_rfl)
  (hd:(tr true P T (args.length+(fn.ntmps - args.length)) s (hin.map (·.1)) (go FU (.c (kS fn)) []) ⟨slotsOf 0 args,hin⟩ [] [] (.fn T fn.results.toList res hout)).den=o:=by kernel_rfl):bX P f args hin res hout o:=by
 refine⟨fun{r} hr=> ?_⟩
 refine QR hT hf hb hn fun B=> ?_
 have h:=go_ok (n:=FU) (x:= .c (kS fn)) (K:=[]) (Ey (rd:=none) (q:=true) (B:=B) (fun _=>rfl) hT hm s (Tr.oM hs) trivial (hd.trans hr))
 refine lq (fB h fun e st hq=> ?_)
 exact hq
theorem PZ: ∀{l:CP},l.map (·.1)=l.map (·.2)→l.ok
 |[],_=>trivial
 |e::l,h=>by
  simp only [List.map_cons,List.cons.injEq]at h
  exact⟨h.1,PZ h.2⟩
theorem cZ {f:Nat} {args:List SV} {hin:List (Nat × Option Ob)} {R:Type} {res:R→TV} {hout:R→List (Nat × Option Ob)} {o:Option R} (l:List (Nat × Nat)) (h:bX P f args hin res hout o):
  bX P f (args.map (SV.ren (swp l))) (iX (swp l) hin) (fun r=>(res r).ren (swp l)) (fun r=>iX (swp l) (hout r)) o:=⟨fun hr=>Fn.GD l (h hr) rfl rfl rfl rfl⟩
theorem Xm {f:Nat} {args:List SV} {hin:List (Nat × Option Ob)} {R:Type} {res:R→TV} {hout:R→List (Nat × Option Ob)} {o:Option R} (args':List SV) (h:bX P f args hin res hout o) (h1:(yR args args').1.map (·.1)=(yR args args').1.map (·.2):=by kernel_rfl) (h2:(yR args args').2=args:=by kernel_rfl):
  bX P f args' hin res hout o:=⟨fun hr=>Fn.le (h hr) (by have:=F6 (PZ h1);rwa [h2]at this)⟩
structure U6 (P:Program) (b:Nat) (args:List SV) (hin:List (Nat × Option Ob)) {R:Type} (res:R→TV) (hout:R→List (Nat × Option Ob)) (o:Option R):Prop where
 run: ∀{r:R},o=some r→Yl P b args hin (res r) (hout r)
instance {b:Nat} {args:List SV} {hin:List (Nat × Option Ob)} {R:Type} {res:R→TV} {hout:R→List (Nat × Option Ob)} {o:Option R}:CoeFun (U6 P b args hin res hout o) (fun _=> ∀{r:R},o=some r→Yl P b args hin (res r) (hout r)):=⟨fun h=>h.run⟩
theorem rkY {b:Nat} {args:List SV} {hin:List (Nat × Option Ob)} {R:Type} {res:R→TV} {hout:R→List (Nat × Option Ob)} {o:Option R} (l:List (Nat × Nat)) (h:U6 P b args hin res hout o):
  U6 P (swp l b) (args.map (SV.ren (swp l))) (iX (swp l) hin) (fun r=>(res r).ren (swp l)) (fun r=>iX (swp l) (hout r)) o:=⟨fun hr=>Yl.GD l (h hr) rfl rfl rfl rfl rfl⟩
def rF (lb:Nat) (rec:iV) (args:List SV) (hin:List (Nat × Option Ob)):St:=match get hin lb with
 |some (some (.loop _ _ sl))=> ⟨xk rec.ps args++sl,hin⟩
 |_=> ⟨[],[]⟩
def Q0 (lb:Nat) (st:St):St:=⟨st.slots,Bt lb 1 st.heap⟩
def Jf (_:iV) (x:Option (Option Ob)):List Ck:=match x with
 |some (some (.loop r 0 sl))=>[.ob (some (.loop r 0 sl))]
 |_=>[.b true]
def BV (rec:iV) (x:Option (Option Ob)):List Ck:=match x with
 |some (some (.loop _ 0 sl))=>[.ob (some (.loop rec 0 sl))]
 |_=>[.b false]
theorem Hg {rec:iV} {x:Option (Option Ob)} (h:Jf rec x=BV rec x): ∃sl,x=some (some (.loop rec 0 sl)):=by
 unfold Jf BV at h
 split at h
 ·simp only [List.cons.injEq,Ck.ob.injEq,Option.some.injEq,Ob.loop.injEq,and_true]at h
  subst h;exact⟨_,rfl⟩
 ·simp at h
theorem scY (hT:mI P T) (hm:P.follows .mixedOrders=true) {lb:Nat} (rec:iV) {args:List SV} {hin:List (Nat × Option Ob)} {R:Type} {res:R→TV} {hout:R→List (Nat × Option Ob)} {o:Option R} (t:Tg Unit) (a:Sc Unit) (s:Sc R)
  (h0:Jf rec (get hin lb)=BV rec (get hin lb):=by kernel_rfl) (h1:Jf rec (get (t.at (rF lb rec args hin) ()).heap lb)=BV rec (get (t.at (rF lb rec args hin) ()).heap lb):=by kernel_rfl)
  (hb:(Nat.beq rec.ps.length args.length && (wF rec.ps && rec.ps.all (fun t=>Nat.blt t rec.N)))=true:=by kernel_rfl)
  (ha:(tr false P T rec.N a (hin.map (·.1)) (go FU (.c rec.assign) []) (rF lb rec args hin) [] [] (.jN (t.at (rF lb rec args hin)))).side true=(tr false P T rec.N a (hin.map (·.1)) (go FU (.c rec.assign) []) (rF lb rec args hin) [] [] (.jN (t.at (rF lb rec args hin)))).side false:=by kernel_rfl)
  (had:(tr false P T rec.N a (hin.map (·.1)) (go FU (.c rec.assign) []) (rF lb rec args hin) [] [] (.jN (t.at (rF lb rec args hin)))).den=some ():=by kernel_rfl)
  (hs:(tr false P T rec.N s (hin.map (·.1)) (go FU (.c rec.body) []) (Q0 lb (t.at (rF lb rec args hin) ())) [] [] (.yl lb rec res hout)).side true=(tr false P T rec.N s (hin.map (·.1)) (go FU (.c rec.body) []) (Q0 lb (t.at (rF lb rec args hin) ())) [] [] (.yl lb rec res hout)).side false:=by kernel_rfl)
  (hd:(tr false P T rec.N s (hin.map (·.1)) (go FU (.c rec.body) []) (Q0 lb (t.at (rF lb rec args hin) ())) [] [] (.yl lb rec res hout)).den=o:=by kernel_rfl):U6 P lb args hin res hout o:=by
 refine⟨fun{r} hr=> ?_⟩
 obtain⟨sl,g0⟩:=Hg h0
 obtain⟨sl2,g1⟩:=Hg h1
 simp only [Bool.and_eq_true]at hb
 have e0:rF lb rec args hin=⟨xk rec.ps args++sl,hin⟩:=by unfold rF;rw [g0]
 refine RF (r:=rec) (sl:=sl) (sl1:=(t.at (rF lb rec args hin) ()).slots) (h1:=(t.at (rF lb rec args hin) ()).heap) (sl2:=sl2) g0 (Nat.eq_of_beq_eq_true hb.1) hb.2.1 hb.2.2 (fun rd B=> ?_) g1 fun rd B=> ?_
 ·have h:=go_ok (n:=FU) (x:= .c rec.assign) (K:=[]) (Ey (rd:=rd) (q:=false) (B:=B) (fun h=>by cases h) hT hm a (Tr.oM ha) trivial had)
  rw [←e0]
  exact lq (fB h fun e st hq=>by
   obtain⟨s',hi,hq⟩:=hq
   exact⟨s',hi,hq.1,hq.2⟩)
 ·have h:=go_ok (n:=FU) (x:= .c rec.body) (K:=[]) (Ey (rd:=rd) (q:=false) (B:=B) (fun h=>by cases h) hT hm s (Tr.oM hs) trivial (hd.trans hr))
  exact lq (fB h fun e st hq=>hq)
end
namespace Sc
variable {P:Program}
def cy {b:Nat} {args:List SV} {hin:List (Nat × Option Ob)} {R T:Type} {res:T→TV} {hout:T→List (Nat × Option Ob)} {o:Option T} (i:Nat) (h:U6 P b args hin res hout o) (k:T→Sc R):Sc R:=
 .bd o (fun y=>Yl P b args hin (res y) (hout y)) (fun _ hy=>h hy) (fun y=>[(i, .call (nV hin) (res y) (hout y))]) k
def cl {f:Nat} {args:List SV} {hin:List (Nat × Option Ob)} {R T:Type} {res:T→TV} {hout:T→List (Nat × Option Ob)} {o:Option T} (i:Nat) (h:bX P f args hin res hout o) (k:T→Sc R):Sc R:=
 .bd o (fun y=>Fn P f args hin (res y) (hout y)) (fun _ hy=>h hy) (fun y=>[(i, .call (nV hin) (res y) (hout y))]) k
def cr {f:Nat} {args:List SV} {hin:List (Nat × Option Ob)} {R T:Type} {res:T→TV} {hout:T→List (Nat × Option Ob)} {o:Option T} (i:Nat) (h:bX P f args hin res hout o) (k:T→Sc R):Sc R:=
 .bd o (fun y=>Fn P f args hin (res y) (hout y)) (fun _ hy=>h hy) (fun y=>[(i, .callR (nV hin) (res y))]) k
def cg {f:Nat} {args:List SV} {hin:List (Nat × Option Ob)} {R T:Type} [Inhabited T] {res:T→TV} {hout:T→List (Nat × Option Ob)} {o:Option T} (i:Nat) (g:List (Bool × Bool)) (h:bX P f args hin res hout o) (k:T→Sc R):Sc R:=
 .bd (bif gB g then o else some default) (fun y=>gB g=true→Fn P f args hin (res y) (hout y)) (fun _ hy hg=>h (UA hy hg)) (fun y=>[(i, .call (nV hin) (res y) (hout y))]) k
def X0 {f:Nat} {args:List SV} {hin:List (Nat × Option Ob)} {R T:Type} [Inhabited T] {res:T→TV} {hout:T→List (Nat × Option Ob)} {o:Option T} (i:Nat) (g:List (Bool × Bool)) (h:bX P f args hin res hout o) (k:T→Sc R):Sc R:=
 .bd (bif gB g then o else some default) (fun y=>gB g=true→Fn P f args hin (res y) (hout y)) (fun _ hy hg=>h (UA hy hg)) (fun y=>[(i, .callR (nV hin) (res y))]) k
section
variable {R:Type} (a b c d e f:Prop) [Decidable a] [Decidable b] [Decidable c] [Decidable d] [Decidable e] [Decidable f]
def a1 (k:Sc R):Sc R:= .as a inferInstance [a] (fun h=> ⟨h,trivial⟩) k
def a2 (k:Sc R):Sc R:= .as (a∧b) inferInstance [a,b] (fun h=> ⟨h.1,h.2,trivial⟩) k
def a3 (k:Sc R):Sc R:= .as (a∧b∧c) inferInstance [a,b,c] (fun h=> ⟨h.1,h.2.1,h.2.2,trivial⟩) k
def a4 (k:Sc R):Sc R:= .as (a∧b∧c∧d) inferInstance [a,b,c,d] (fun h=> ⟨h.1,h.2.1,h.2.2.1,h.2.2.2,trivial⟩) k
def a5 (k:Sc R):Sc R:= .as (a∧b∧c∧d∧e) inferInstance [a,b,c,d,e] (fun h=> ⟨h.1,h.2.1,h.2.2.1,h.2.2.2.1,h.2.2.2.2,trivial⟩) k
def a6 (k:Sc R):Sc R:= .as (a∧b∧c∧d∧e∧f) inferInstance [a,b,c,d,e,f] (fun h=> ⟨h.1,h.2.1,h.2.2.1,h.2.2.2.1,h.2.2.2.2.1,h.2.2.2.2.2,trivial⟩) k
end
def rs {R:Type}:Nat→Sc R→Sc R
 |0,k=>k
 |n+1,k=> .rg {} [] (rs n k)
def r {R:Type} (k:Sc R):Sc R:= .rg {} [] k
def e {R:Type} (x:R):Sc R:= .en x [] []
def t {R:Type} (k:Sc R):Sc R:= .tf true [] k
def f {R:Type} (k:Sc R):Sc R:= .tf false [] k
end Sc
def Cs.e {α:Type} (x:α):Cs:= .pf ⟨x=x,rfl⟩
def Cs.t (j:Nat) (i:Int) (n:Nat):Cs:= .dv j ⟨0≤i∧i<(n:Int),i.toNat<n,toNat_lt⟩
def Cs.tg (j:Nat) (g:List (Bool × Bool)) (i:Int) (n:Nat):Cs:= .dv j ⟨gB g=true→0≤i∧i<(n:Int),gB g=true→i.toNat<n,fun h q=>toNat_lt (h q)⟩
def Jm (b n:Nat):CV→CV
 | .own b' nn m=>bif Nat.beq b' b then .own b' nn n else .own b' nn m
 |c=>c
def ZH (b n:Nat):SV→SV
 | .one c=> .one (Jm b n c)
 | .agg cs=> .agg (cs.map (Jm b n))
def Vr (b n:Nat):TV→TV
 | .v s=> .v (ZH b n s)
 |t=>t
def VZ (b n k:Nat):Option Ob→Option Ob
 |some (.cells E cs)=>some (.cells E (cs.map (Jm b n)))
 |some (.arr E e m el)=>bif Nat.beq k b then some (.arr E e n el)else some (.arr E e m el)
 |some (.rows E e m el ov)=>bif Nat.beq k b then some (.rows E e n el ov)else some (.rows E e m el ov)
 |o=>o
def WM (b:Nat):CV→List Nat
 | .own b' _ m=>bif Nat.beq b' b then [m]else []
 |_=>[]
def lnS (b:Nat) (s:SV):List Nat:=(cellsOf s).flatMap (WM b)
def Y5 (b:Nat):TV→List Nat
 | .v s=>lnS b s
 |_=>[]
def Yf (b k:Nat):Option Ob→List Nat
 |some (.cells _ cs)=>cs.flatMap (WM b)
 |some (.arr _ _ m _)=>bif Nat.beq k b then [m]else []
 |some (.rows _ _ m _ _)=>bif Nat.beq k b then [m]else []
 |_=>[]
def SX (b:Nat) (st:St):List Nat:=(st.slots.flatMap fun p=>Y5 b p.2)++st.heap.flatMap fun p=>Yf b p.1 p.2
theorem NE {b n:Nat} {c:CV} (h: ∀x∈WM b c,x=n):Jm b n c=c:=by
 cases c<;>try rfl
 rename_i b' nn m
 simp only [WM]at h
 simp only [Jm]
 cases hb:Nat.beq b' b with
 |true=>rw [hb]at h;rw [h m (List.mem_singleton.2 rfl)];rfl
 |false=>rfl
theorem Jk {b n:Nat}: ∀{cs:List CV},(∀x∈cs.flatMap (WM b),x=n)→cs.map (Jm b n)=cs
 |[],_=>rfl
 |c::cs,h=>by
  rw [List.map_cons,NE (fun x hx=>h x (by rw [List.flatMap_cons];exact List.mem_append_left _ hx)),Jk (fun x hx=>h x (by rw [List.flatMap_cons];exact List.mem_append_right _ hx))]
theorem Tt {b n:Nat} {t:TV} (h: ∀x∈Y5 b t,x=n):Vr b n t=t:=by
 cases t with
 |dL l=>rfl
 |v s=>
  cases s with
  |one c=>show TV.v (.one (Jm b n c))=_;rw [NE (fun x hx=>h x (by show x∈[c].flatMap (WM b);simpa using hx))]
  |agg cs=>
   have:=Jk (cs:=cs) h
   show TV.v (.agg (cs.map (Jm b n)))=_
   rw [this]
theorem Te {b n k:Nat} {o:Option Ob} (h: ∀x∈Yf b k o,x=n):VZ b n k o=o:=by
 cases o with
 |none=>rfl
 |some o=>
  cases o<;>try rfl
  ·rename_i E cs
   have:=Jk (cs:=cs) h
   show some (Ob.cells E (cs.map (Jm b n)))=_
   rw [this]
  ·simp only [Yf]at h
   show(bif Nat.beq k b then _ else _)=_
   cases hb:Nat.beq k b with
   |true=>rw [hb]at h;rw [h _ (List.mem_singleton.2 rfl)];rfl
   |false=>rfl
  ·simp only [Yf]at h
   show(bif Nat.beq k b then _ else _)=_
   cases hb:Nat.beq k b with
   |true=>rw [hb]at h;rw [h _ (List.mem_singleton.2 rfl)];rfl
   |false=>rfl
def UL (b n:Nat) (st:St):St:=⟨st.slots.map fun p=>(p.1,Vr b n p.2),st.heap.map fun p=>(p.1,VZ b n p.1 p.2)⟩
theorem Qg {b n:Nat} {st:St} (h: ∀x∈SX b st,x=n):UL b n st=st:=by
 obtain⟨sl,hp⟩:=st
 have h1: ∀{l:List (Nat × TV)},(∀x∈l.flatMap fun p=>Y5 b p.2,x=n)→(l.map fun p=>(p.1,Vr b n p.2))=l:=by
  intro l
  induction l with
  |nil=>intro _;rfl
  |cons p l ih=>intro h;rw [List.map_cons,ih (fun x hx=>h x (by rw [List.flatMap_cons];exact List.mem_append_right _ hx)),Tt (fun x hx=>h x (by rw [List.flatMap_cons];exact List.mem_append_left _ hx))]
 have h2: ∀{l:List (Nat × Option Ob)},(∀x∈l.flatMap fun p=>Yf b p.1 p.2,x=n)→(l.map fun p=>(p.1,VZ b n p.1 p.2))=l:=by
  intro l
  induction l with
  |nil=>intro _;rfl
  |cons p l ih=>intro h;rw [List.map_cons,ih (fun x hx=>h x (by rw [List.flatMap_cons];exact List.mem_append_right _ hx)),Te (fun x hx=>h x (by rw [List.flatMap_cons];exact List.mem_append_left _ hx))]
 show St.mk _ _=_
 rw [h1 (fun x hx=>h x (List.mem_append_left _ hx)),h2 (fun x hx=>h x (List.mem_append_right _ hx))]
def IS.ln (b n m:Nat) (h:n=m):IS where
 act st:=(SX b st).map .n
 want st:=(SX b st).map fun _=> .n n
 nxt st:=UL b m st
 ok B N L st hs:=by
  subst h
  rw [Qg]
  ·exact .refl
  ·revert hs
   generalize SX b st=l
   induction l with
   |nil=>intro _ x hx;simp at hx
   |cons y l ih=>
    intro hs x hx
    simp only [List.map_cons,List.cons.injEq,Ck.n.injEq]at hs
    rcases List.mem_cons.1 hx with rfl|hx
    ·exact hs.1
    ·exact ih hs.2 x hx
def IS.ll {α:Type} (b:Nat) (l m:List α) (h:l.length=m.length:=by simp only [List.length_set,List.length_append,List.length_cons,List.length_nil,List.length_replicate,List.length_drop]):IS:= .ln b _ _ h
def IS.us (t:Nat) (x y:TV) (h:Di x y):IS where
 act st:=match get st.slots t with|some v=>[.tv v, .b true]|none=>[.tv x, .b false]
 want _:=[.tv x, .b true]
 nxt st:=⟨Ci t y st.slots,st.heap⟩
 ok B N L st hs:=by
  cases hg:get st.slots t with
  |none=>rw [hg]at hs;simp at hs
  |some v=>
   rw [hg]at hs
   simp only [List.cons.injEq,Ck.tv.injEq,and_true]at hs
   subst hs
   exact Sg.us t y hg h
def IS.uh (b:Nat) (x y:Option Ob) (h:LM x y):IS where
 act st:=match get st.heap b with|some v=>[.hp [(b,v)], .b true]|none=>[.b false]
 want _:=[.hp [(b,x)], .b true]
 nxt st:=⟨st.slots,Ci b y st.heap⟩
 ok B N L st hs:=by
  cases hg:get st.heap b with
  |none=>rw [hg]at hs;simp at hs
  |some v=>
   rw [hg]at hs
   simp only [List.cons.injEq,Ck.hp.injEq,Prod.mk.injEq,true_and,and_true]at hs
   subst hs
   exact Sg.uh b y hg h
def IS.ad (t b E esz:Nat) (el:Nat→Nat→DV):IS where
 act st:=match get st.slots t,get st.heap b with
  |some (.v (.one (.d (.sl (some false) _ l _)))),none=>[.n l, .b true]
  |_,_=>[.b false]
 want _:=[.n 0, .b true]
 nxt st:=⟨(t, .v (.one (.own b false 0)))::st.slots,(b,some (.arr E esz 0 el))::st.heap⟩
 ok B N L st hs:=by
  split at hs
  ·rename_i e l f h1 h2
   simp only [List.cons.injEq,Ck.n.injEq,and_true]at hs
   subst hs
   exact j3.XY h1 h2
  ·simp at hs
def IS.gN (p q b E esz:Nat) (el:Nat→Nat→DV):IS where
 act st:=match get st.heap p,get st.heap b with
  |some (some (.cells _ cs)),none=>match cs[q]? with
   |some (.d (.sl (some false) _ l _))=>[.n l, .b true]
   |_=>[.b false]
  |_,_=>[.b false]
 want _:=[.n 0, .b true]
 nxt st:=match get st.heap p with
  |some (some (.cells E0 cs))=> ⟨st.slots,(p,some (.cells E0 (cs.set q (.own b false 0))))::(b,some (.arr E esz 0 el))::st.heap⟩
  |_=>st
 ok B N L st hs:=by
  split at hs
  ·rename_i E0 cs h1 h2
   split at hs
   ·rename_i e l f h3
    simp only [List.cons.injEq,Ck.n.injEq,and_true]at hs
    subst hs
    rw [h1]
    exact j3.Wd (E:=0) (esz:=0) (fun _ _ _ _ h=> .inl ⟨h,rfl⟩) h1 h3 h2
   ·simp at hs
  ·simp at hs
def IS.re (p q b b':Nat):IS where
 act st:=match get st.heap p,get st.heap b,get st.heap b' with
  |some (some (.cells _ cs)),some (some (.arr _ _ _ _)),none=>match cs[q]? with
   |some (.own k _ _)=>[.n k, .b true]
   |_=>[.b false]
  |_,_,_=>[.b false]
 want _:=[.n b, .b true]
 nxt st:=match get st.heap p,get st.heap b with
  |some (some (.cells E0 cs)),some (some (.arr E esz n el))=>match cs[q]? with
   |some (.own _ nn len)=> ⟨st.slots,(p,some (.cells E0 (cs.set q (.own b' nn len))))::(b',some (.arr E esz n el))::(b,none)::st.heap⟩
   |_=>st
  |_,_=>st
 ok B N L st hs:=by
  split at hs
  ·rename_i E0 cs E esz n el h1 h2 h3
   split at hs
   ·rename_i k nn len h4
    simp only [List.cons.injEq,Ck.n.injEq,and_true]at hs
    subst hs
    rw [h1,h2]
    simp only [h4]
    exact j3.Yi h1 h4 h2 h3
   ·simp at hs
  ·simp at hs
def IS.adR (t b E esz:Nat) (el:Nat→Nat→EV):IS where
 act st:=match get st.slots t,get st.heap b with
  |some (.v (.one (.d (.sl (some false) _ l _)))),none=>[.n l, .b true]
  |_,_=>[.b false]
 want _:=[.n 0, .b true]
 nxt st:=⟨(t, .v (.one (.own b false 0)))::st.slots,(b,some (.rows E esz 0 el none))::st.heap⟩
 ok B N L st hs:=by
  split at hs
  ·rename_i e l f h1 h2
   simp only [List.cons.injEq,Ck.n.injEq,and_true]at hs
   subst hs
   exact j3.Vy h1 h2
  ·simp at hs
def Sc.sb {R:Type} (t:Nat) (b x y v:Bool) (j:Nat) (k:Sc R):Sc R:=
 .wi j {
  p:=b=v,act:=(fun st=>match get st.slots t with|some w=>[.tv w, .b true]|none=>[.tv (vB x), .b false]),want:=fun _=>[.tv (vB (bif b then x else y)), .b true],nxt:=fun st=> ⟨Ci t (vB (bif v then x else y)) st.slots,st.heap⟩,
  ok:=fun hp B N L st hs=>by
   subst hp
   cases hg:get st.slots t with
   |none=>rw [hg]at hs;simp at hs
   |some w=>
    rw [hg]at hs
    simp only [List.cons.injEq,Ck.tv.injEq,and_true]at hs
    subst hs
    exact Sg.us t _ hg (.refl _)} k
def Sc.un {α R:Type} [Inhabited α] (b c E esz:Nat) (cf:α→Nat→DV) (l:List α) (q:Int) (j:Nat) (k:Sc R):Sc R:=
 .wi j {
  p:=0≤q∧q≤(l.length:Int),act:=(fun st=>match get st.heap b,get st.heap c with|some x,some y=>[.ob x, .ob y, .b (Nat.ble 1 esz)]|_,_=>[.b false]),
  want:=fun _=>[.ob (some (.arr E esz l.length (aD cf l))), .ob (some (.suf b q.toNat esz)), .b true],nxt:=fun st=> ⟨st.slots,(c,some (.arr E esz (l.length - q.toNat) (aD cf (l.drop q.toNat))))::(b,none)::st.heap⟩,
  ok:=fun hp B N L st hs=>by
   split at hs
   ·rename_i x y h1 h2
    simp only [List.cons.injEq,Ck.ob.injEq,Ck.b.injEq,and_true]at hs
    obtain⟨rfl,rfl,hz⟩:=hs
    exact j3.Vv h1 h2 (by omega) (by have:=Nat.le_of_ble_eq_true hz;omega)
   ·simp at hs} k
def IS.tr (b E esz len:Nat) (el:Nat→Nat→DV) (el':Nat→Nat→EV) (h: ∀i,i<len→ ∀j,j<esz→Oh (el i j) (el' i j)):IS where
 act st:=match get st.heap b with|some x=>[.ob x]|none=>[.b false]
 want _:=[.ob (some (.arr E esz len el))]
 nxt st:=⟨st.slots,(b,some (.rows E esz len el' none))::st.heap⟩
 ok B N L st hs:=by
  split at hs
  ·rename_i x h1
   simp only [List.cons.injEq,Ck.ob.injEq,and_true]at hs
   subst hs
   exact j3.UZ h1 h
  ·simp at hs
def JX:List Nat→List (Nat × TV)→List (Nat × TV)
 |[],_=>[]
 |t::ks,l=>match get l t with|some v=>(t,v)::JX ks l|none=>JX ks l
theorem Dc {l:List (Nat × TV)}: ∀{ks:List Nat} {t:Nat} {v:TV},get (JX ks l) t=some v→get l t=some v
 |[],_,_,h=>by cases h
 |k::ks,t,v,h=>by
  unfold JX at h
  split at h
  ·rename_i v' hv
   rw [aF]at h
   split at h
   ·rename_i e;subst e;cases h;exact hv
   ·exact Dc h
  ·exact Dc h
def IS.dp (ks:List Nat):IS where
 act _:=[]
 want _:=[]
 nxt st:=⟨JX ks st.slots,st.heap⟩
 ok B N L st _:=fun a w hc=> ⟨by
  obtain⟨ρ,F,h1,h2,h3,h4⟩:=hc.ex
  exact⟨ρ,F,h1,h2,fun t tv ht=>h3 t tv (Dc ht),h4⟩,hc.ids,hc.sz⟩
def Sc.so {R:Type} (t b:Nat) (nn:Bool) (n m:Nat) (j:Nat) (k:Sc R):Sc R:=
 .wi j {
  p:=n=m,act:=(fun st=>match get st.slots t with|some w=>[.tv w, .b true]|none=>[.tv (.v (.one (.own b nn n))), .b false]),want:=fun _=>[.tv (.v (.one (.own b nn n))), .b true],
  nxt:=fun st=> ⟨Ci t (.v (.one (.own b nn m))) st.slots,st.heap⟩,
  ok:=fun hp B N L st hs=>by
   have:=hp
   subst this
   cases hg:get st.slots t with
   |none=>rw [hg]at hs;simp at hs
   |some w=>
    rw [hg]at hs
    simp only [List.cons.injEq,Ck.tv.injEq,and_true]at hs
    subst hs
    exact Sg.us t _ hg (.refl _)} k
def cpL (n:Nat) (l:List Bool) (lo:Nat) (x:List Bool) (m:Nat):List Bool:=(List.range n).map fun i=>bif Nat.ble lo i && Nat.blt i (lo+m)then x.getD (i - lo) false else l.getD i false
def X9 {α:Type} [Inhabited α] (l:List α) (lo n:Nat):List α:=(List.range n).map fun i=>at' l (i+lo)
theorem zo {α:Type} [Inhabited α] (l:List α) (lo n:Nat):(X9 l lo n).length=n:=by simp [X9]
theorem XR {α:Type} [Inhabited α] (c:α→Nat→DV) (l m:List α) (n esz:Nat) {raw:Nat→Nat→DV} (h: ∀i,i<n→ ∀j,j<esz→oo (raw i j) (aD c m i j)):
  ∀i,i<l.length+n→ ∀j,j<esz→oo (jY (aD c l) l.length raw i j) (aD c (l++m) i j):=by
 intro i hi j hj
 unfold jY
 by_cases hl:i<l.length
 ·rw [if_pos hl]
  show oo (c (at' l i) j) (c (at' (l++m) i) j)
  rw [pX hl];exact .refl _
 ·rw [if_neg hl]
  show oo _ (c (at' (l++m) i) j)
  rw [oz (by omega)]
  exact h (i - l.length) (by omega) j hj
section
variable {B:Base} {N:Nat} {L:List Nat} {st:St}
theorem j3.thaw {t b E esz n:Nat} {fu nn:Bool} {el:Nat→Nat→DV} (hp:get st.slots t=some (.v (.one (.own b nn n)))) (hb:get st.heap b=some (some (.frow fu E esz n el))):
  j3 B N L st ⟨(t, .v (.one (.d (.sl (some true) esz n el))))::st.slots,st.heap⟩:=by
 intro a w hc
 obtain⟨⟨ρ,F,hfr,⟨ft,hi⟩,hs,dn⟩,hid,sz⟩:=hc
 refine⟨⟨ρ,F,hfr,⟨ft,hi⟩,fun t' tv ht'=> ?_,dn⟩,hid,sz⟩
 rw [aF]at ht'
 split at ht'
 ·rename_i e;subst e;cases ht'
  obtain⟨v,hv,hr⟩:=hs t _ hp
  refine⟨v,hv, ?_⟩
  obtain⟨k,base,cap,g1,⟨g2,_⟩,g3⟩:=hi.obj b _ hb
  rcases hr with⟨k',base',cap',e1,e2⟩|⟨e0,e1,e2,e3⟩
  ·rw [g1]at e1;cases e1
   refine⟨some ⟨k,base,none⟩,cap,e2,(fun _ e=>by cases e),(fun e=>by cases e),(fun e=>by cases e),g2,fun ad ha=> ?_⟩
   cases ha
   exact⟨fun _=>rfl,g3⟩
  ·rw [g1]at e1;cases e1
 ·exact hs t' tv ht'
end
def IS.tw (t b E esz n:Nat) (fu nn:Bool) (el:Nat→Nat→DV):IS where
 act st:=match get st.slots t,get st.heap b with|some x,some y=>[.tv x, .ob y]|_,_=>[.b false]
 want _:=[.tv (.v (.one (.own b nn n))), .ob (some (.frow fu E esz n el))]
 nxt st:=⟨(t, .v (.one (.d (.sl (some true) esz n el))))::st.slots,st.heap⟩
 ok B N L st hs:=by
  split at hs
  ·rename_i x y h1 h2
   simp only [List.cons.injEq,Ck.tv.injEq,Ck.ob.injEq,and_true]at hs
   obtain⟨rfl,rfl⟩:=hs
   exact j3.thaw h1 h2
  ·simp at hs
section
variable {B:Base} {N:Nat} {L:List Nat} {st:St}
theorem j3.Vk {t b b' E esz n:Nat} {el:Nat→Nat→DV} {nn:Bool} {len:Nat} (hp:get st.slots t=some (.v (.one (.own b nn len)))) (hb:get st.heap b=some (some (.arr E esz n el))) (hb':get st.heap b'=none):
  j3 B N L st ⟨(t, .v (.one (.own b' nn len)))::st.slots,(b',some (.arr E esz n el))::(b,none)::st.heap⟩:=by
 intro a w hc
 obtain⟨⟨ρ,F,hfr,⟨ft,hi⟩,hs,dn⟩,hid,sz⟩:=hc
 have hρ:=hi.fresh b' hb'
 have hbb':b≠b':=fun e=>by rw [e,hb']at hb;cases hb
 obtain⟨pl,hpl⟩: ∃pl,ρ b=some pl:=by
  rcases hi.obj b _ hb with⟨h,_⟩|⟨k,base,cap,h,_⟩<;>exact⟨_,h⟩
 have hu: ∀x,aT ((b',some (.arr E esz n el))::(b,none)::st.heap) x=if b'=x then some (some (.arr E esz n el))else if b=x then some none else aT st.heap x:=fun x=>by simp only [aT];rw [aF,aF]
 have g:Gr ρ F w (bG ρ b' pl) F w:=⟨aR hρ,fun _ h=>h,fun _ _=>rfl⟩
 have hlive: ∀x ox,(x=b'∨x=b)→aT ((b',some (.arr E esz n el))::(b,none)::st.heap) x=some (some ox)→x=b'∧ox= .arr E esz n el:=fun x ox hx hh=>by
  rw [hu]at hh
  rcases hx with rfl|rfl
  ·rw [if_pos rfl]at hh;cases hh;exact⟨rfl,rfl⟩
  ·rw [if_neg (Ne.symm hbb'),if_pos rfl]at hh;cases hh
 refine⟨⟨bG ρ b' pl,F,{hfr with rho:=fun x p' e=>aR hρ x p' (hfr.rho x p' e)},⟨uQ ft b' (ft b), ?_⟩,fun t' tv ht'=> ?_,dn⟩,hid,sz⟩
 ·refine hi.step g hfr (Nat.le_refl _) (fun x=>x=b'∨x=b) (fun x ox hx hh=> ?_) (fun x ox hx hh=> ?_) (fun x ox k hx hh hf=> ?_) (fun x y ox oy k hx hy h1 h2 f1 f2=>(hlive x ox hx h1).1.trans (hlive y oy hy h2).1.symm) (fun k hk=> .inl hk) fun x hh=> ?_
  ·rw [hu,if_neg (fun e=>hx (.inl e.symm)),if_neg (fun e=>hx (.inr e.symm))]at hh
   exact⟨hh,fun _ _=>rfl,fun k=>by rw [d9 (fun e=>hx (.inl e))]⟩
  ·obtain⟨rfl,rfl⟩:=hlive x ox hx hh
   rw [bB]
   rcases hi.obj b _ hb with⟨h,h0⟩|⟨k,base,cap,h,h1,h2⟩
   ·rw [hpl]at h;cases h;exact .inl ⟨aC _ _,h0⟩
   ·rw [hpl]at h;cases h;exact .inr ⟨k,base,cap,aC _ _,h1,h2⟩
  ·obtain⟨rfl,rfl⟩:=hlive x ox hx hh
   rw [bB]at hf
   exact .inl ⟨b,_, .inr rfl,hb,hf⟩
  ·rw [hu]at hh
   split at hh
   ·cases hh
   ·split at hh
    ·cases hh
    ·rename_i e2 e3
     have:=hi.fresh x hh
     simp only [bG];rw [if_neg (Ne.symm e2)];exact this
 ·rw [aF]at ht'
  split at ht'
  ·rename_i e;subst e;cases ht'
   obtain⟨v,hv,hr⟩:=hs t _ hp
   refine⟨v,hv, ?_⟩
   rcases hr with⟨k,base,cap,e1,e2⟩|⟨e0,e1,e2,e3⟩
   ·rw [hpl]at e1;cases e1
    exact .inl ⟨k,base,cap,aC _ _,e2⟩
   ·rw [hpl]at e1;cases e1
    exact .inr ⟨e0,aC _ _,e2,e3⟩
  ·obtain⟨v,hv,hr⟩:=hs t' tv ht'
   exact⟨v,hv,hr.gr g⟩
end
section
variable {B:Base} {N:Nat} {L:List Nat} {st:St}
end
def WH (b b':Nat):CV→CV
 | .own k nn n=>bif Nat.beq k b then .own b' nn n else .own k nn n
 |c=>c
def Y2 (b b':Nat):TV→TV
 | .v (.one c)=> .v (.one (WH b b' c))
 | .v (.agg cs)=> .v (.agg (cs.map (WH b b')))
 |t=>t
def Y0 (b b':Nat):Ob→Ob
 | .cells E cs=> .cells E (cs.map (WH b b'))
 |o=>o
def Qb (b b':Nat):List (Nat × TV)→List (Nat × TV)
 |[]=>[]
 |(t,v)::l=>(t,Y2 b b' v)::Qb b b' l
def LZ (b b':Nat):List (Nat × Option Ob)→List (Nat × Option Ob)
 |[]=>[]
 |(x,o)::l=>(x,match o with|some o=>some (Y0 b b' o)|none=>none)::LZ b b' l
theorem Lx {b b' t:Nat} {v:TV}: ∀{l:List (Nat × TV)},get (Qb b b' l) t=some v→ ∃v0,get l t=some v0∧v=Y2 b b' v0
 |[],h=>by cases h
 |(k,x)::l,h=>by
  unfold Qb at h
  rw [aF]at h ⊢
  split at h
  ·rename_i e;rw [if_pos e];cases h;exact⟨_,rfl,rfl⟩
  ·rename_i e;rw [if_neg e];exact Lx h
theorem JM {b b' x:Nat}: ∀{l:List (Nat × Option Ob)},get (LZ b b' l) x=(match get l x with|some (some o)=>some (some (Y0 b b' o))|some none=>some none|none=>none)
 |[]=>rfl
 |(k,o)::l=>by
  unfold LZ
  rw [aF,aF]
  split
  ·cases o<;>rfl
  ·exact JM
section
variable {B:Base} {N:Nat} {L:List Nat} {st:St}
theorem Nu {ρ ρ':Nat→Option Pl} {F:Nat→Prop} {w:World} {b b':Nat} {pl:Pl} (g:Gr ρ F w ρ' F w) (hpl:ρ b=some pl) (hb':ρ' b'=some pl) {c:CV} {v:Value} (h:dO ρ F w c v):dO ρ' F w (WH b b' c) v:=by
 unfold WH
 split
 ·rename_i k nn n
  cases hk:Nat.beq k b with
  |false=>exact h.gr g
  |true=>
   have:=Nat.eq_of_beq_eq_true hk
   subst this
   rcases h with⟨q,base,cap,e1,e2⟩|⟨e0,e1,e2,e3⟩
   ·rw [hpl]at e1;cases e1;exact .inl ⟨q,base,cap,hb',e2⟩
   ·rw [hpl]at e1;cases e1;exact .inr ⟨e0,hb',e2,e3⟩
 ·exact h.gr g
theorem Iz {ρ ρ':Nat→Option Pl} {F:Nat→Prop} {w:World} {b b':Nat} {pl:Pl} (g:Gr ρ F w ρ' F w) (hpl:ρ b=some pl) (hb':ρ' b'=some pl): ∀{cs:List CV} {vs:List Value},bR ρ F w cs vs→bR ρ' F w (cs.map (WH b b')) vs
 |[],[],_=>trivial
 |_::_,_::_,⟨h1,h2⟩=> ⟨Nu g hpl hb' h1,Iz g hpl hb' h2⟩
 |[],_::_,h=>h.elim
 |_::_,[],h=>h.elim
theorem TJ {ρ ρ':Nat→Option Pl} {F:Nat→Prop} {w:World} {b b':Nat} {pl:Pl} (g:Gr ρ F w ρ' F w) (hpl:ρ b=some pl) (hb':ρ' b'=some pl) {tv:TV} {v:Value} (h:bC ρ F w tv v):bC ρ' F w (Y2 b b' tv) v:=by
 unfold Y2
 split
 ·exact Nu g hpl hb' h
 ·obtain⟨vs,e,h⟩:=h
  exact⟨vs,e,Iz g hpl hb' h⟩
 ·exact h.gr g
theorem j3.U4 {b b' E esz n:Nat} {el:Nat→Nat→DV} (hb:get st.heap b=some (some (.arr E esz n el))) (hb':get st.heap b'=none):
  j3 B N L st ⟨Qb b b' st.slots,(b',some (.arr E esz n el))::(b,none)::LZ b b' st.heap⟩:=by
 intro a w hc
 obtain⟨⟨ρ,F,hfr,⟨ft,hi⟩,hs,dn⟩,hid,sz⟩:=hc
 have hρ:=hi.fresh b' hb'
 have hbb':b≠b':=fun e=>by rw [e,hb']at hb;cases hb
 obtain⟨pl,hpl⟩: ∃pl,ρ b=some pl:=by
  rcases hi.obj b _ hb with⟨h,_⟩|⟨k,base,cap,h,_⟩<;>exact⟨_,h⟩
 have hu: ∀x,aT ((b',some (.arr E esz n el))::(b,none)::LZ b b' st.heap) x=if b'=x then some (some (.arr E esz n el))else if b=x then some none else(match aT st.heap x with|some (some o)=>some (some (Y0 b b' o))|some none=>some none|none=>none):=fun x=>by
  simp only [aT];rw [aF,aF,JM]
 have g:Gr ρ F w (bG ρ b' pl) F w:=⟨aR hρ,fun _ h=>h,fun _ _=>rfl⟩
 have hpl':bG ρ b' pl b'=some pl:=aC _ _
 have hlive: ∀x ox,aT ((b',some (.arr E esz n el))::(b,none)::LZ b b' st.heap) x=some (some ox)→(x=b'∧ox= .arr E esz n el)∨(x≠b'∧x≠b∧ ∃o0,aT st.heap x=some (some o0)∧ox=Y0 b b' o0):=fun x ox hh=>by
  rw [hu]at hh
  split at hh
  ·rename_i e;cases hh;exact .inl ⟨e.symm,rfl⟩
  ·rename_i e1
   split at hh
   ·cases hh
   ·rename_i e2
    split at hh
    ·rename_i o0 e3;cases hh;exact .inr ⟨Ne.symm e1,Ne.symm e2,o0,e3,rfl⟩
    ·cases hh
    ·cases hh
 refine⟨⟨bG ρ b' pl,F,{hfr with rho:=fun x p' e=>aR hρ x p' (hfr.rho x p' e)},⟨uQ ft b' (ft b), ?_⟩,fun t' tv ht'=> ?_,dn⟩,hid,sz⟩
 ·refine hi.step g hfr (Nat.le_refl _) (fun _=>True) (fun x ox hx hh=>absurd trivial hx) (fun x ox _ hh=> ?_) (fun x ox k _ hh hf=> ?_) (fun x y ox oy k _ _ h1 h2 f1 f2=> ?_) (fun k hk=> .inl hk) fun x hh=> ?_
  ·rcases hlive x ox hh with⟨rfl,rfl⟩|⟨n1,n2,o0,e3,rfl⟩
   ·rw [bB]
    rcases hi.obj b _ hb with⟨h,h0⟩|⟨k,base,cap,h,h1,h2⟩
    ·rw [hpl]at h;cases h;exact .inl ⟨aC _ _,h0⟩
    ·rw [hpl]at h;cases h;exact .inr ⟨k,base,cap,aC _ _,h1,h2⟩
   ·rw [d9 n1]
    have hr:=hi.obj x _ e3
    cases o0 with
    |cells E0 cs=>
     obtain⟨k,cap,vs,x1,x0,x2,x3⟩:=hr
     exact⟨k,cap,vs,aR hρ _ _ x1,x0,x2,Iz g hpl hpl' x3⟩
    |_=>exact iH.keep g (fun k hk=>hk) (fun _ _=>rfl) hr
  ·rcases hlive x ox hh with⟨rfl,rfl⟩|⟨n1,n2,o0,e3,rfl⟩
   ·rw [bB]at hf;exact .inl ⟨b,_,trivial,hb,hf⟩
   ·rw [d9 n1]at hf;exact .inl ⟨x,_,trivial,e3,hf⟩
  ·rcases hlive x ox h1 with⟨rfl,rfl⟩|⟨n1,n2,o1,e1,rfl⟩<;>rcases hlive y oy h2 with⟨rfl,rfl⟩|⟨n3,n4,o2,e2,rfl⟩
   ·rfl
   ·rw [bB]at f1;rw [d9 n3]at f2
    exact absurd (hi.dis _ _ _ _ k hb e2 f1 f2).symm n4
   ·rw [d9 n1]at f1;rw [bB]at f2
    exact absurd (hi.dis _ _ _ _ k e1 hb f1 f2) n2
   ·rw [d9 n1]at f1;rw [d9 n3]at f2
    exact hi.dis _ _ _ _ k e1 e2 f1 f2
  ·rw [hu]at hh
   split at hh
   ·cases hh
   ·rename_i e1
    split at hh
    ·cases hh
    ·split at hh
     ·cases hh
     ·cases hh
     ·rename_i e3
      have:=hi.fresh x e3
      simp only [bG];rw [if_neg (Ne.symm e1)];exact this
 ·obtain⟨v0,h0,rfl⟩:=Lx ht'
  obtain⟨v,hv,hr⟩:=hs t' v0 h0
  exact⟨v,hv,TJ g hpl hpl' hr⟩
end
def IS.ra (b b':Nat):IS where
 act st:=match get st.heap b,get st.heap b' with
  |some (some (.arr _ _ _ _)),none=>[.b true]
  |_,_=>[.b false]
 want _:=[.b true]
 nxt st:=match get st.heap b with
  |some (some (.arr E esz n el))=> ⟨Qb b b' st.slots,(b',some (.arr E esz n el))::(b,none)::LZ b b' st.heap⟩
  |_=>st
 ok B N L st hs:=by
  split at hs
  ·rename_i E esz n el h1 h3
   rw [h1]
   exact j3.U4 h1 h3
  ·simp at hs
def Sc.hb {R:Type} (n:Nat) (c v:Bool) (x y:Option Ob) (j:Nat) (k:Sc R):Sc R:=
 .wi j {
  p:=c=v,act:=(fun st=>match get st.heap n with|some o=>[.ob o, .b true]|none=>[.ob (bif c then x else y), .b false]),want:=fun _=>[.ob (bif c then x else y), .b true],
  nxt:=fun st=> ⟨st.slots,Ci n (bif v then x else y) st.heap⟩,
  ok:=fun hp B N L st hs=>by
   subst hp
   cases hg:get st.heap n with
   |none=>rw [hg]at hs;simp at hs
   |some o=>
    rw [hg]at hs
    simp only [List.cons.injEq,Ck.ob.injEq,and_true]at hs
    subst hs
    exact Sg.uh n _ hg (.refl _)} k
def IS.rs (t b b':Nat):IS where
 act st:=match get st.slots t,get st.heap b,get st.heap b' with
  |some (.v (.one (.own k _ _))),some (some (.arr _ _ _ _)),none=>[.n k, .b true]
  |_,_,_=>[.b false]
 want _:=[.n b, .b true]
 nxt st:=match get st.slots t,get st.heap b with
  |some (.v (.one (.own _ nn len))),some (some (.arr E esz n el))=> ⟨(t, .v (.one (.own b' nn len)))::st.slots,(b',some (.arr E esz n el))::(b,none)::st.heap⟩
  |_,_=>st
 ok B N L st hs:=by
  split at hs
  ·rename_i k nn len E esz n el h1 h2 h3
   simp only [List.cons.injEq,Ck.n.injEq,and_true]at hs
   subst hs
   rw [h1,h2]
   exact j3.Vk h1 h2 h3
  ·simp at hs
def Sc.ge {R:Type} (b K V E:Nat) (l l':List (Int × List Int)) (j:Nat) (k:Sc R):Sc R:=
 .wi j {
  p:=l=l',act:=(fun st=>match get st.heap b with|some x=>[.ob x]|none=>[.b false]),want:=fun _=>[.ob (some (.gm K V E l none))],
  nxt:=fun st=> ⟨st.slots,Ci b (some (.gm K V E l' none)) st.heap⟩,
  ok:=fun hp B N L st hs=>by
   subst hp
   split at hs
   ·rename_i x h1
    simp only [List.cons.injEq,Ck.ob.injEq,and_true]at hs
    subst hs
    exact Sg.uh b _ h1 (.refl _)
   ·simp at hs} k
end Sg
