import Derived.Test.YtbjhjmcpfmhgdaaGreatWsLd
import Derived.Shelf.Slices.Delete
import Derived.Shelf.Slices.Empties
set_option linter.all false
namespace Sg
open Go Go.Sort Go.Proofs Go.Shelf
variable {P:Program}
def IS.dn (b:Nat):IS where
 act st:=match get st.heap b with|none=>[.b true]|some _=>[.b false]
 want _:=[.b true]
 nxt st:=⟨st.slots,(b,none)::st.heap⟩
 ok B N L st hs:=by
  split at hs
  ·rename_i h1
   intro a w hc
   obtain⟨⟨ρ,F,hfr,⟨ft,hi⟩,hs,dn⟩,hid,sz⟩:=hc
   have hu: ∀x,aP ((b,none)::st.heap) x=if b=x then some none else aP st.heap x:=fun x=>ay _ _ _ _
   have ho: ∀x ob,aP ((b,none)::st.heap) x=some (some ob)→aP st.heap x=some (some ob):=fun x ob hh=>by
    rw [hu]at hh
    split at hh
    ·cases hh
    ·exact hh
   refine⟨⟨ρ,F,hfr,⟨ft,fun x ob hh=>hi.obj x ob (ho x ob hh),fun x ob k hh=>hi.blk x ob k (ho x ob hh),fun x y o1 o2 k h1 h2=>hi.dis x y o1 o2 k (ho _ _ h1) (ho _ _ h2),fun x hh=> ?_,hi.gl⟩,hs,dn⟩,hid,sz⟩
   rw [hu]at hh
   split at hh
   ·cases hh
   ·exact hi.fresh x hh
  ·simp at hs
def ZT (P:Program) (f:FuncId) (args:List SV) (hin hout:List (Nat × Option Ob)):Prop:=
 Enters P f∧ ∀(B:Base) (vs:List Value),(∀k,B.F k→k<B.w.heap.size)→HI B B.ρ B.F B.w (aP hin)→di B.ρ B.F B.w args vs→
  CallsDIn Fence.wide 0 P f vs.toArray .returning B.w fun e u' w'=>u'= .returning∧ ∃v,e= .returned v∧Post B (.bZ []) hout v w'
section
variable {P:Program} {T:List (Nat × TI)}
theorem ZT.uO {f:FuncId} {args:List SV} {hin hout:List (Nat × Option Ob)} (l:List (Nat × Nat)) (h:ZT P f args hin hout):ZT P f (args.map (SV.ren (swp l))) (lq (swp l) hin) (lq (swp l) hout):=by
 have r:=Fq l
 refine⟨h.1,fun B vs hF hi hr=> ?_⟩
 refine(h.2 {B with ρ:=fun x=>B.ρ (swp l x)} vs hF ((BK r).1 hi) (nJ (σ:=swp l).1 hr)).mono ?_
 rintro e u' w' ⟨rfl,v,rfl,ρ',F',hf,g1,g2⟩
 refine⟨rfl,v,rfl,fun x=>ρ' (rF l x),F', ?_, ?_, ?_⟩
 ·refine⟨hf.os,hf.tape,hf.output,hf.size,hf.mem,fun b p hb=>hf.rho (rF l b) p ?_,hf.fz,hf.bf⟩
  show B.ρ (swp l (rF l b))=some p
  rw [r.st];exact hb
 ·refine(BK (ρ0:=fun x=>B.ρ (swp l x)) r).2 ?_
  have:(fun x=>(fun x=>ρ' (rF l x)) (swp l x))=ρ':=by funext x;simp [r.ts]
  rw [this];exact g1
 ·obtain⟨us,e1,e2⟩:=g2
  match us,e2 with
  |[],_=>exact⟨[],e1,trivial⟩
end
section
variable {P:Program} {T:List (Nat × TI)} {B:Base} {N:Nat} {L:List Nat}
def Base.re (B:Base) (w:World) (ρ:Nat→Option Pl) (F:Nat→Prop) (D:List Deferred):Base:=⟨w,ρ,F,fun k=> ¬ F k∧(B.Ft k∨B.w.heap.size≤k),w.heap.size,D⟩
theorem HI.re {w:World} {ρ:Nat→Option Pl} {F:Nat→Prop} {h:Hp} (D:List Deferred) (hi:HI B ρ F w h):HI (B.re w ρ F D) ρ F w h:=by
 obtain⟨ft,hi⟩:=hi
 exact⟨ft,hi.obj,fun b ob k hb hk=> ⟨(hi.blk b ob k hb hk).1,(hi.blk b ob k hb hk).2.1, .inl ⟨(hi.blk b ob k hb hk).2.1,(hi.blk b ob k hb hk).2.2⟩⟩,hi.dis,hi.fresh,hi.gl⟩
end
section
variable {P:Program} {T:List (Nat × TI)}
end
def GD {α:Type} [Inhabited α] (c:α→Nat→DV) (r:α→EV) (i0 j0:Nat) (l:List α):Nat→Nat→EV:=fun i j=>bif Nat.beq i i0 && Nat.beq j j0 then r (at' l i)else .d (c (at' l i) j)
theorem MX {α:Type} [Inhabited α] (c:α→Nat→DV) (r:α→EV) (i0 j0:Nat) (l:List α) (n esz:Nat) (v:EV) (x:α) (hn:n=l.length) (hr:r x=v) (h: ∀j,j<esz→j=j0∨c x j=c (at' l i0) j):
  JL n esz (O4 (GD c r i0 j0 l) i0 j0 v) (GD c r i0 j0 (l.set i0 x)):=by
 intro i hi j hj
 unfold O4 GD
 by_cases e:i=i0
 ·subst e
  have hx:at' (l.set i x) i=x:=by simp [at',show i<l.length by omega]
  rw [hx,show Nat.beq i i=true from Nat.beq_refl i,Bool.true_and]
  by_cases ej:j=j0
  ·subst ej
   rw [if_pos ⟨rfl,rfl⟩,show Nat.beq j j=true from Nat.beq_refl j,cond_true,hr]
  ·rw [if_neg (fun q=>ej q.2)]
   have hb:Nat.beq j j0=false:=by
    cases hq:Nat.beq j j0 with
    |false=>rfl
    |true=>exact absurd (Nat.eq_of_beq_eq_true hq) ej
   rw [hb,cond_false,cond_false]
   rcases h j hj with q|q
   ·exact absurd q ej
   ·rw [q]
 ·rw [if_neg (fun q=>e q.1)]
  have hx:at' (l.set i0 x) i=at' l i:=by simp [at',List.getElem?_set,show ¬ i0=i from fun q=>e q.symm]
  rw [hx]
theorem QY {α:Type} [Inhabited α] (c:α→Nat→DV) (r:α→EV) (i0 j0:Nat) (l:List α) (n:Nat) {esz:Nat} (h: ∀x,Na (r x)=c x j0): ∀i,i<n→ ∀j,j<esz→dW (Na (GD c r i0 j0 l i j)) (ah c l i j):=by
 intro i _ j _
 unfold GD ah
 cases hb:(Nat.beq i i0 && Nat.beq j j0)with
 |false=>exact .refl _
 |true=>
  rw [Bool.and_eq_true]at hb
  rw [cond_true,h,Nat.eq_of_beq_eq_true hb.2]
  exact .refl _
def X4 (x:DV) (y:EV):Prop:=(∃z,y= .d z∧dW x z)∨((∃E e g,y= .row E e 0 g)∧ ∃e f,x= .sl (some false) e 0 f)
theorem M5 {E esz n:Nat} {el:Nat→Nat→DV} {el':Nat→Nat→EV} (h: ∀i,i<n→ ∀j,j<esz→X4 (el i j) (el' i j)):JC (some (.arr E esz n el)) (some (.rows E esz n el' none)):=by
 intro ρ F w S b hr
 rcases hr with hr|⟨k,base,cap,h1,h0,vs,h2,h3,h4,h5,h6⟩
 ·exact .inl hr
 ·refine .inr ⟨k,base,cap,vs,fun _ _=>none,h1,h0,h2,h3,h4,h5,fun i hi j hj=> ?_,fun _ _ _ _ _ e _=>(by cases e),fun _ _ e=>(by cases e)⟩
  obtain⟨u,hu,hr⟩:=h6 i hi j hj
  refine⟨u,hu, ?_⟩
  show dX F w S none (el' i j) u
  rcases h i hi j hj with⟨z,e,hz⟩|⟨⟨E',e',g,e⟩,e1,f1,e2⟩
  ·rw [e];exact hz F w u hr
  ·rw [e];rw [e2]at hr
   obtain⟨a,cp,hv,_,g2,g3,_,_⟩:=hr
   have ha:=g2 rfl
   refine .inl ⟨rfl, ?_⟩
   rw [hv,ha,(g3 ha).2]
section
variable {B:Base} {N:Nat} {L:List Nat} {st:St}
theorem gH.aaf {b E esz n:Nat} {el:Nat→Nat→EV} (hb:get st.heap b=some (some (.rows E esz n el none))):
  gH B N L st ⟨st.slots,(b,some (.arr E esz n fun i j=>Na (el i j)))::st.heap⟩:=by
 intro a w hconc
 obtain⟨⟨ρ,F,hfr,⟨ft,hi⟩,hs,dn⟩,hid,sz⟩:=hconc
 have hu: ∀x,aP ((b,some (.arr E esz n fun i j=>Na (el i j)))::st.heap) x=if b=x then some (some (.arr E esz n fun i j=>Na (el i j)))else aP st.heap x:=fun x=>by simp only [aP];rw [ay]
 obtain⟨rb,hrep⟩: ∃rb:Nat→Nat→Option Nat,∀F':Nat→Prop,(∀q,F' q↔F q∨(ft b q∧ ∃i j,rb i j=some q))→eX ρ F' w (fun q=>ft b q∧ ∀i j,rb i j≠some q) b (.arr E esz n fun i j=>Na (el i j)):=by
  rcases hi.obj b _ hb with hn|⟨k,base,cap,vs,rb,m1,m0,m2,m3,m4,m5,m6,m7,m8⟩
  ·exact⟨fun _ _=>none,fun F' _=> .inl hn⟩
  ·refine⟨rb,fun F' hF'=> .inr ⟨k,base,cap,m1,⟨m0,m8⟩,vs,m2,m3,m4,m5,fun i hi' j hj=> ?_⟩⟩
   obtain⟨u,hu',hr⟩:=m6 i hi' j hj
   refine⟨u,hu', ?_⟩
   have hr:dX F w (ft b) (rb i j) (el i j) u:=hr
   have hg: ∀q,F q→F' q:=fun q h=>(hF' q).2 (.inl h)
   cases hel:el i j with
   |d x=>
    rw [hel]at hr
    show bn F' w (Na (el i j)) u
    rw [hel]
    exact bn.gr hg (fun _ _=>rfl) hr
   |row E2 e2 n2 f2=>
    rw [hel]at hr
    show bn F' w (Na (el i j)) u
    rw [hel]
    show bn F' w (.sl none e2 n2 f2) u
    rcases hr with⟨n0,e4⟩|⟨q,bq,cq,q1,q2,q3,vs2,q4,q5,q6,q7,q8⟩
    ·exact⟨none,0,by rw [e4,n0],(fun h=>by cases h),(fun h=>by cases h),fun _=> ⟨n0,rfl⟩,by rw [n0];exact Nat.le_refl _,fun ad h=>by cases h⟩
    ·refine⟨some ⟨q,bq,none⟩,cq,q3,(fun h=>by cases h),(fun h=>by cases h),(fun h=>by cases h),q6,fun ad h=> ?_⟩
     cases h
     refine⟨fun _=>rfl,fun i' hi2 j' hj'=> ⟨(hF' q).2 (.inr ⟨q2,i,j,q1⟩), ?_⟩⟩
     obtain⟨u2,hu1,hu2⟩:=q8 i' hi2 j' hj'
     exact⟨u2,by simp only [World.cell?,q4];simpa using hu1,bn.gr hg (fun _ _=>rfl) hu2⟩
 obtain⟨F',hF'⟩: ∃F':Nat→Prop,∀q,F' q↔F q∨(ft b q∧ ∃i j,rb i j=some q):=⟨_,fun _=>Iff.rfl⟩
 have hrep:=hrep F' hF'
 have g:Gr ρ F w ρ F' w:=⟨fun _ _ h=>h,fun q h=>(hF' q).2 (.inl h),fun _ _=>rfl⟩
 have hfr':Fr B ρ F' w:={hfr with
  fz:=fun q hq=>by
   rcases(hF' q).1 hq with h|⟨h,_⟩
   ·exact hfr.fz q h
   ·obtain⟨h1,_,h2⟩:=hi.blk b _ q hb h
    exact⟨h1, .inr h2⟩
  bf:=fun q hq=>(hF' q).2 (.inl (hfr.bf q hq))}
 refine⟨⟨ρ,F',hfr',⟨oV ft b fun q=>ft b q∧ ∀i j,rb i j≠some q, ?_⟩,fun t tv ht=> ?_,dn.gr g⟩,hid,sz⟩
 ·refine hi.step g hfr (Nat.le_refl _) (fun x=>x=b) (fun x ob' e hh=> ?_) (fun x ob' e hh=> ?_) (fun x ob' q e hh hf=> ?_) (fun b1 b2 o1 o2 q e1 e2 _ _ _ _=>e1.trans e2.symm) (fun q hq=> ?_) fun x hh=> ?_
  ·rw [hu,if_neg (Ne.symm e)]at hh
   exact⟨hh,fun _ _=>rfl,fun q=>by rw [cO e]⟩
  ·subst e
   rw [hu,if_pos rfl]at hh;cases hh;rw [aX];exact hrep
  ·subst e
   rw [aX]at hf
   exact .inl ⟨x,_,rfl,hb,hf.1⟩
  ·rcases(hF' q).1 hq with h|⟨h,i,j,hi'⟩
   ·exact .inl h
   ·refine .inr (.inl ⟨⟨b,_,rfl,hb,h⟩,fun x ob e _ hf=> ?_⟩)
    subst e
    rw [aX]at hf
    exact hf.2 i j hi'
  ·rw [hu]at hh
   split at hh
   ·cases hh
   ·exact hi.fresh x hh
 ·obtain⟨v,hv,hr⟩:=hs t tv ht
  exact⟨v,hv,hr.gr g⟩
end
def IS.rf (b E esz n:Nat) (el:Nat→Nat→EV):IS where
 act st:=match get st.heap b with|some x=>[.ob x]|none=>[.b false]
 want _:=[.ob (some (.rows E esz n el none))]
 nxt st:=⟨st.slots,(b,some (.arr E esz n fun i j=>Na (el i j)))::st.heap⟩
 ok B N L st hs:=by
  split at hs
  ·rename_i x h1
   simp only [List.cons.injEq,Ck.ob.injEq,and_true]at hs
   subst hs
   exact gH.aaf h1
  ·simp at hs
end Sg
