import Derived.Test.YtcafpngcflplgaaGreatDoorSmLa
import Derived.Laws.StructEq
import Derived.Laws.DeepStrings4
import Derived.Laws.Slices
import Derived.Laws.CopyRow
import Derived.Laws.IdiomCopy
import Derived.Lib.ConvBytes
import Derived.Laws.IdiomStrings
import Derived.Laws.Strings
set_option linter.all false
namespace Sg
open Go
section
variable {P:Program} {B:Base} {ρ ρ':Nat->Option Pl} {F F':Nat->Prop} {w w':World} {h:Hp} {o:Oper} {a:Act} {T:List (Nat × TI)}
def pO (ρ:Nat->Option Pl) (ids:List Nat):Nat->Option Pl:=fun b=>if b∈ids then ρ b else none
theorem di {ids:List Nat} {b:Nat} (hb:b∈ids):pO ρ ids b=ρ b:=ci hb
theorem dK.kP {ids:List Nat}: ∀{c:CV} {v:Value},(∀b∈c.bP,b∈ids)->dK ρ F w c v->dK (pO ρ ids) F w c v:=by
 intro c;induction c with
 |d x=>intro v _ h;exact h
 |ptr b off=>intro v hm h;obtain⟨k,base,cap,h,e⟩:=h;exact⟨k,base,cap,by rw [di (hm b (by simp [CV.bP]))];exact h,e⟩
 |opt b esz i off=>intro v hm h;obtain⟨k,base,cap,h,e⟩:=h;exact⟨k,base,cap,by rw [di (hm b (by simp [CV.bP]))];exact h,e⟩
 |own b nn len=>
  intro v hm h;rcases h with⟨k,base,cap,h,e⟩|⟨h0,h,e⟩;·exact .inl ⟨k,base,cap,by rw [di (hm b (by simp [CV.bP]))];exact h,e⟩
  ·exact .inr ⟨h0,by rw [di (hm b (by simp [CV.bP]))];exact h,e⟩
 |mp b=>intro v hm h;obtain⟨k,base,cap,h,e⟩:=h;exact⟨k,base,cap,by rw [di (hm b (by simp [CV.bP]))];exact h,e⟩
 |yl b=>intro v hm h;obtain⟨k,base,cap,h,e⟩:=h;exact⟨k,base,cap,by rw [di (hm b (by simp [CV.bP]))];exact h,e⟩
 |fn f nf n cap ih=>
  intro v hm h;obtain⟨vs,e,hl,h⟩:=h;refine⟨vs,e,hl,fun j u hu=>ih j (fun b hb=>hm b ?_) (h j u hu)⟩;have hj:j<n:=by rw [<-hl];exact(List.getElem?_eq_some_iff.1 hu).1
  exact List.mem_flatMap.2 ⟨j,cY.2 hj,hb⟩
theorem bO.kP {ids:List Nat}: ∀{cs:List CV} {vs:List Value},(∀b∈cs.flatMap CV.bP,b∈ids)->bO ρ F w cs vs->bO (pO ρ ids) F w cs vs
 |[],[],_,h=>h
 |c::cs,_::_,hm,⟨h,t⟩=> ⟨h.kP fun b hb=>hm b (by simp [hb]),bO.kP (fun b hb=>hm b (by
   rw [List.flatMap_cons,cz];exact .inr hb)) t⟩
 |[],_::_,_,h=>h
 |_::_,[],_,h=>h
theorem fB.kP {ids:List Nat}: ∀{s:SV} {v:Value},(∀b∈s.bP,b∈ids)->fB ρ F w s v->fB (pO ρ ids) F w s v
 | .one _,_,hm,h=>dK.kP hm h
 | .agg _,_,hm,⟨vs,e,h⟩=> ⟨vs,e,h.kP hm⟩
theorem dm.kP {ids:List Nat}: ∀{ss:List SV} {vs:List Value},(∀b∈ss.flatMap SV.bP,b∈ids)->dm ρ F w ss vs->dm (pO ρ ids) F w ss vs
 |[],[],_,h=>h
 |c::cs,_::_,hm,⟨h,t⟩=> ⟨h.kP fun b hb=>hm b (by simp [hb]),dm.kP (fun b hb=>hm b (by
   rw [List.flatMap_cons,cz];exact .inr hb)) t⟩
 |[],_::_,_,h=>h
 |_::_,[],_,h=>h
theorem bE.kP {ids:List Nat}: ∀{t:TV} {v:Value},(∀b∈t.bP,b∈ids)->bE ρ F w t v->bE (pO ρ ids) F w t v
 | .v _,_,hm,h=>fB.kP hm h
 | .eB _,_,hm,⟨vs,e,h⟩=> ⟨vs,e,h.kP hm⟩
theorem JP {α:Type}: ∀{l:List (Nat × α)} {b:Nat} {x:α},get l b=some x->(b,x)∈l
 |[],_,_,h=>by simp [get]at h
 |(k,v)::l,b,x,h=>by
  rw [aC]at h;split at h;·rename_i e;cases h;subst e;simp
  ·exact cm _ (JP h)
theorem qY {c:Nat->CV}: ∀{i n:Nat} {x:CV},x∈dS c i n-> ∃j,j<i+n/\x=c j
 |_,0,_,h=>by simp [dS]at h
 |i,n+1,x,h=>by
  simp only [dS,eh]at h;rcases h with rfl|h;·exact⟨i,by omega,rfl⟩
  ·obtain⟨j,hj,e⟩:=qY h;exact⟨j,by omega,e⟩
theorem wU {agg:Bool} {cs:List CV} {s:SV} (h:jU agg cs=some s):s.bP=cs.flatMap CV.bP:=by
 unfold jU at h;split at h;·cases h;rfl
 ·cases h;simp [SV.bP]
 ·cases h
theorem ig.kP {ids:List Nat} {S:Nat->Prop} {b:Nat} (hb:b∈ids): ∀{ob:Ob},(∀x∈ob.bP,x∈ids)->ig ρ F w S b ob->ig (pO ρ ids) F w S b ob
 | .cells _ _,hm,⟨k,cap,vs,h1,h0,h2,h3⟩=> ⟨k,cap,vs,by rw [di hb];exact h1,h0,h2,h3.kP hm⟩
 | .fcells _ _,_,⟨k,base,cap,h1,h2⟩=> ⟨k,base,cap,by rw [di hb];exact h1,h2⟩
 | .frow _ _ _ _ _,_,⟨k,base,cap,h1,h2⟩=> ⟨k,base,cap,by rw [di hb];exact h1,h2⟩
 | .arr _ _ _ _,_, .inl ⟨h1,h2⟩=> .inl ⟨by rw [di hb];exact h1,h2⟩
 | .arr _ _ _ _,_, .inr ⟨k,base,cap,h1,h2⟩=> .inr ⟨k,base,cap,by rw [di hb];exact h1,h2⟩
 | .rows _ _ _ _ _,_, .inl ⟨h1,h2⟩=> .inl ⟨by rw [di hb];exact h1,h2⟩
 | .rows _ _ _ _ ov,hm, .inr ⟨k,base,cap,vs,rb,h1,h0,h2,h3,h4,h5,h6,h7⟩=> .inr ⟨k,base,cap,vs,rb,by rw [di hb];exact h1,h0,h2,h3,h4,h5,fun i hi j hj=>by
   obtain⟨u,hu,hr⟩:=h6 i hi j hj;refine⟨u,hu, ?_⟩;unfold wC at hr ⊢;cases ov with
   |none=>exact hr
   |some p=>
    obtain⟨i0,j0,c⟩:=p;simp only at hr ⊢;split;·rename_i e;rw [ci e]at hr;exact hr.kP hm
    ·rename_i e;rw [ce e]at hr;exact hr,h7⟩
 | .map m,hm,⟨k,base,cap,es,h1,h0,h2,h3,h5,h4⟩=> ⟨k,base,cap,es,by rw [di hb];exact h1,h0,h2,h3,h5,fun i hi=>by
   obtain⟨e,e1,e2,⟨s3,e3,e3'⟩,⟨s4,e4,e4'⟩⟩:=h4 i hi;refine⟨e,e1,e2,⟨s3,e3,e3'.kP fun x hx=> ?_⟩,s4,e4,e4'.kP fun x hx=> ?_⟩
   ·rw [wU e3]at hx;obtain⟨c,hc,hx⟩:=List.mem_flatMap.1 hx;obtain⟨j,_,rfl⟩:=qY hc;simp [CV.bP]at hx
   ·rw [wU e4]at hx;obtain⟨c,hc,hx⟩:=List.mem_flatMap.1 hx;obtain⟨j,hj,rfl⟩:=qY hc;exact hm x (h5 i hi j (by omega) x hx)⟩
 | .loop _ _ sl,hm,⟨k,base,cap,fn,tmps,D,h1,h0,h2,h3,h4,h5⟩=> ⟨k,base,cap,fn,tmps,D,by rw [di hb];exact h1,h0,h2,h3,h4,fun t tv ht=>by
   obtain⟨v,e1,e2⟩:=h5 t tv ht;exact⟨v,e1,e2.kP fun x hx=>hm x (List.mem_flatMap.2 ⟨_,JP ht,hx⟩)⟩⟩
 | .gm _ _ _ _ ov,hm,⟨k,base,cap,es,rb,h1,h0,h2,h3,h4,h5⟩=> ⟨k,base,cap,es,rb,by rw [di hb];exact h1,h0,h2,h3,fun i hi=>by
   obtain⟨e,e1,e2,e3,hr⟩:=h4 i hi;refine⟨e,e1,e2,e3, ?_⟩;unfold uS at hr ⊢;cases ov with
   |none=>exact hr
   |some p=>
    obtain⟨n,c⟩:=p;simp only at hr ⊢;split;·rename_i e;rw [ci e]at hr;exact hr.kP hm
    ·rename_i e;rw [ce e]at hr;exact hr,h5⟩
 | .coll,_,⟨k,base,cap,h1,h2⟩=> ⟨k,base,cap,by rw [di hb];exact h1,h2⟩
 | .suf b0 _ _,hm, .inl ⟨h1,h2,h3⟩=> .inl ⟨by rw [di (hm b0 (by simp [Ob.bP]))];exact h1,by rw [di hb];exact h2,h3⟩
 | .suf b0 _ _,hm, .inr ⟨k,base,cap,h1,h2,h3⟩=> .inr ⟨k,base,cap,by rw [di (hm b0 (by simp [Ob.bP]))];exact h1,h2,h3.mono fun p hp=>by rw [di hb];exact hp⟩
theorem pz: ∀{ids:List Nat} {obs:List (Option (Option Ob))} {hin:List (Nat × Option Ob)},bJ ids obs=some hin->(∀b,get hin b≠none->b∈ids)/\(∀b x,get hin b=some x-> ∃(j:Nat) (ob:Ob),ids[j]? =some b/\obs[j]? =some (some (some ob))/\x=some ob)/\
  (∀b∈ids,get hin b≠none)/\ ∀(j b:Nat),ids[j]? =some b-> ∃ob,obs[j]? =some (some (some ob))
 |[],_,hin,hz=>by simp [bJ]at hz;subst hz;simp [get]
 |i::is,some (some ob)::os,hin,hz=>by
  simp only [bJ]at hz;split at hz
  ·rename_i l hl;cases hz;obtain⟨h1,h2,h3,h4⟩:=pz hl;refine⟨fun b hb=> ?_,fun b x hb=> ?_,fun b hb=> ?_,fun j b hj=> ?_⟩
   ·rw [aC]at hb;split at hb
    ·rename_i e;simp [e]
    ·exact cm _ (h1 b hb)
   ·rw [aC]at hb;split at hb
    ·rename_i e;cases hb;exact⟨0,ob,by simp [e],rfl,rfl⟩
    ·obtain⟨j,ob',e1,e2,e3⟩:=h2 b x hb;exact⟨j+1,ob',by simpa using e1,by simpa using e2,e3⟩
   ·rw [aC];split
    ·simp
    ·rename_i e;rcases eh.1 hb with rfl|hb
     ·exact absurd rfl e
     ·exact h3 b hb
   ·cases j with
    |zero=>exact⟨ob,rfl⟩
    |succ j=>simpa using h4 j b (by simpa using hj)
  ·cases hz
 |_::_,[],_,hz=>by simp [bJ]at hz
 |_::_,none::_,_,hz=>by simp [bJ]at hz
 |_::_,some none::_,_,hz=>by simp [bJ]at hz
theorem qf: ∀{obs:List (Option (Option Ob))} {j:Nat} {ob:Ob},obs[j]? =some (some (some ob))-> ∀x∈ob.bP,x∈dF obs
 |[],_,_,h,_,_=>by simp at h
 |some (some ob')::l,j,ob,h,x,hx=>by
  cases j with
  |zero=>simp at h;subst h;simp [dF,hx]
  |succ j=>simp only [dF,cz];exact .inr (qf (by simpa using h) x hx)
 |none::l,j,ob,h,x,hx=>by
  cases j with
  |zero=>simp at h
  |succ j=>simp only [dF];exact qf (by simpa using h) x hx
 |some none::l,j,ob,h,x,hx=>by
  cases j with
  |zero=>simp at h
  |succ j=>simp only [dF];exact qf (by simpa using h) x hx
theorem Aa {ids:List Nat}: ∀{ks:List Nat} {os:List (Option (Option Ob))},fE ids ks os=true-> ∀(j k:Nat),ks[j]? =some k->k∈ids\/os[j]? =some none
 |[],_,_,j,k,hj=>by simp at hj
 |k0::ks,o::os,h,j,k,hj=>by
  simp only [fE,cd]at h;cases j with
  |zero=>
   simp at hj;subst hj;cases hm:fK k0 ids with
   |true=>exact .inl (jw.1 hm)
   |false=>
    simp only [hm,bu]at h;right;cases o with
    |none=>rfl
    |some _=>simp at h
  |succ j=>simpa using Aa h.2 j k (by simpa using hj)
 |_::_,[],h,_,_,_=>by simp [fE]at h
theorem bL {α:Type}: ∀{l:List (Nat × α)} {b:Nat},b ∉ l.map (·.1)->get l b=none
 |[],_,_=>rfl
 |(k,v)::l,b,h=>by
  rw [aC,ce (fun e=>h (by simp [e]))];exact bL fun hm=>h (by simp at hm ⊢;exact .inr hm)
theorem Fh {α:Type} {l:List (Nat × α)} {b:Nat} (h:get l b≠none):b∈l.map (·.1):=by
 apply cM;intro hn;exact h (bL hn)
theorem get_append {α:Type}: ∀(l l':List (Nat × α)) (b:Nat),get (l++l') b=match get l b with|some x=>some x|none=>get l' b
 |[],_,_=>rfl
 |(k,v)::l,l',b=>by
  rw [dE,aC,aC];split;·rfl
  ·exact get_append l l' b
theorem EL (ids:List Nat) (b:Nat):get (ids.map fun i=>(i,(none:Option Ob))) b=if b∈ids then some none else none:=by
 induction ids with
 |nil=>simp [get]
 |cons i is ih=>
  rw [cL,aC,ih];by_cases e:i=b;·simp [e]
  ·have e':b≠i:=fun h=>e h.symm;simp [e,e']
theorem yu: ∀{xs:List TV} {args:List SV} {vs:List Value},gT xs=some args->dG ρ F w xs vs->dm ρ F w args vs
 |[],args,vs,hs,hx=>by simp [gT]at hs;subst hs;match vs,hx with|[],_=>trivial
 | .v s::xs,args,vs,hs,hx=>by
  simp only [gT]at hs;split at hs
  ·rename_i l hl;cases hs
   match vs,hx with
   |v::vs,⟨h1,h2⟩=>exact⟨h1,yu hl h2⟩
  ·cases hs
 | .eB _::_,_,_,hs,_=>by simp [gT]at hs
def Post (B:Base) (res:TV) (hout:List (Nat × Option Ob)) (v:Value) (w:World):Prop:= ∃ρ F,Fr B ρ F w/\HI B ρ F w (aP hout)/\bE ρ F w res v
theorem AZ {ids:List Nat} {res:TV} {hin hout:List (Nat × Option Ob)} {args:List SV} {xs:List TV} {obs:List (Option (Option Ob))} {vs:List Value} (X:(Value->World->Prop)->Prop)
  (hzip:bJ ids obs=some hin) (hargs:gT xs=some args) (hb:(bZ (args.flatMap SV.bP) ids && bZ (dF (obs.take ids.length)) ids && fE ids (hout.map (·.1)) (obs.drop ids.length))=true)
  (hobs:obs=(ids++hout.map (·.1)).map h) (fr:Fr B ρ F w) (hi:HI B ρ F w h) (hx:dG ρ F w xs vs)
  (hup: ∀B':Base,B'.w=w->B'.ρ=pO ρ ids->(∀k,B'.F k->k<B'.w.heap.size)->HI B' B'.ρ B'.F B'.w (aP hin)->dm B'.ρ B'.F B'.w args vs->
   ∀K:Value->World->Prop,(∀v w',Post B' res hout v w'->K v w')->X K) (K:Value->World->Prop)
  (hK: ∀v ρ' F' w',Gr ρ F w ρ' F' w'->Fr B ρ' F' w'->HI B ρ' F' w' (upd h (hout++ids.map (fun i=>(i,none))))->bE ρ' F' w' res v->K v w'):X K:=by
 simp only [cd]at hb;have hm1:=bU.1 hb.1.1;have hm2:=bU.1 hb.1.2;have hfo:=hb.2;obtain⟨z1,z2,z3,z4⟩:=pz hzip;obtain⟨ft,hi⟩:=hi;have hlook: ∀j b,ids[j]? =some b->obs[j]? =some (h b):=fun j b hj=>by
  have hlt:j<ids.length:=by
   rcases Nat.lt_or_ge j ids.length with h|h;·exact h
   ·rw [eL h]at hj;cases hj
  rw [hobs,dj,cT hlt,hj];rfl
 have hin1: ∀b x,get hin b=some x->b∈ids/\ ∃ob,x=some ob/\h b=some (some ob)/\ ∀q∈ob.bP,q∈ids:=fun b x hb=>by
  obtain⟨j,ob,e1,e2,e3⟩:=z2 b x hb;have:=hlook j b e1;rw [e2]at this;simp at this;refine⟨List.mem_of_getElem? e1,ob,e3,this.symm,fun q hq=>hm2 q (qf (j:=j) (ob:=ob) ?_ q hq)⟩;have hlt:j<ids.length:=by
   rcases Nat.lt_or_ge j ids.length with h|h;·exact h
   ·rw [eL h]at e1;cases e1
  rw [List.getElem?_take,ci hlt];exact e2
 have hlive: ∀b∈ids,∃ob,h b=some (some ob):=fun b hb=>by
  cases hg:get hin b with
  |none=>exact absurd hg (z3 b hb)
  |some x=>obtain⟨_,ob,_,h1,_⟩:=hin1 b x hg;exact⟨ob,h1⟩
 have hfresh: ∀b,get hout b≠none->b∈ids\/h b=none:=fun b hb=>by
  have hmem:=Fh hb;obtain⟨j,hj⟩:=List.getElem?_of_mem hmem;rcases Aa hfo j b hj with h1|h1;·exact .inl h1
  ·right;rw [List.getElem?_drop,hobs,dj,cU (by omega),Nat.add_sub_cancel_left,hj]at h1;simpa using h1
 let B':Base:=⟨w,pO ρ ids,F,(fun k=> ∃b ob,b∈ids/\h b=some (some ob)/\ft b k),0,[]⟩
 have hi':mg B' (pO ρ ids) F w (aP hin) ft:=by
  refine⟨fun b ob hb=> ?_,fun b ob k hb hk=> ?_,fun b1 b2 ob1 ob2 k h1 h2 e1 e2=> ?_,fun b hb=> ?_,hi.gl⟩
  ·obtain⟨hmem,ob',e1,e2,e3⟩:=hin1 b _ hb;cases e1;exact(hi.obj b ob e2).kP hmem e3
  ·obtain⟨hmem,ob',e1,e2,e3⟩:=hin1 b _ hb;cases e1;obtain⟨g1,g2,g3⟩:=hi.blk b ob k e2 hk;exact⟨g1,g2, .inl ⟨b,ob,hmem,e2,hk⟩⟩
  ·obtain⟨m1,_,e3,e4,_⟩:=hin1 b1 _ h1;obtain⟨m2,_,e5,e6,_⟩:=hin1 b2 _ h2;exact hi.dis b1 b2 _ _ k e4 e6 e1 e2
  ·rw [pO];split
   ·rename_i hmem;exact absurd hb (z3 b hmem)
   ·rfl
 have hxs:=(yu hargs hx).kP hm1;refine hup B' rfl rfl (fun k hk=>(fr.fz k hk).1) ⟨ft,hi'⟩ hxs K ?_;rintro v w2 ⟨ρ2,F2,fr2,⟨ft2,hi2⟩,hr2⟩
 let ρ3:Nat->Option Pl:=fun b=>if get hout b≠none then ρ2 b else ρ b
 have h23: ∀b p,ρ2 b=some p->get hout b≠none:=fun b p hb hn=>by
  have:=hi2.fresh b hn;rw [this]at hb;cases hb
 have g23:Gr ρ2 F2 w2 ρ3 F2 w2:=⟨fun b p hb=>by simp only [ρ3];rw [ci (h23 b p hb)];exact hb,fun _ h=>h,fun _ _=>rfl⟩;have hown: ∀k,B'.Ft k-> ¬ F k/\(B.Ft k\/B.w.heap.size<=k):=by
  rintro k ⟨b,ob,hmem,hob,hk⟩;exact(hi.blk b ob k hob hk).2
 have hmem: ∀k,k<w.heap.size-> ¬ B'.Ft k->w2.heap[k]? =w.heap[k]? :=fr2.mem;have hgr:Gr ρ F w ρ3 F2 w2:=by
  refine⟨fun b p hb=> ?_,fr2.bf,fun k hk=>hmem k (fr.fz k hk).1 fun e=>(hown k e).1 hk⟩;simp only [ρ3];split
  ·rename_i hne;rcases hfresh b hne with hm|hn
   ·exact fr2.rho b p (by show pO ρ ids b=some p;rw [pO,ci hm];exact hb)
   ·rw [hi.fresh b hn]at hb;cases hb
  ·exact hb
 have hu: ∀b,upd h (hout++ids.map (fun i=>(i,none))) b=match get hout b with|some x=>some x|none=>if b∈ids then some none else h b:=fun b=>by
  rw [zM,get_append,EL];cases get hout b with
  |some x=>rfl
  |none=>
   by_cases hm:b∈ids;·simp [hm]
   ·simp [hm]
 have hcase: ∀b ob,upd h (hout++ids.map (fun i=>(i,none))) b=some (some ob)->(get hout b=some (some ob)/\ρ3 b=ρ2 b)\/(get hout b=none/\b ∉ ids/\h b=some (some ob)/\ρ3 b=ρ b):=fun b ob hb=>by
  rw [hu]at hb;cases hg:get hout b with
  |some x=>rw [hg]at hb;left;exact⟨by simpa using hb,by simp [ρ3,hg]⟩
  |none=>
   rw [hg]at hb;by_cases hm:b∈ids;·simp [hm]at hb
   ·simp only [hm,if_false]at hb;right;exact⟨rfl,hm,hb,by simp [ρ3,hg]⟩
 have hkeep: ∀b ob k,b ∉ ids->h b=some (some ob)->ft b k->w2.heap[k]? =w.heap[k]? /\ ¬ F2 k/\k<w.heap.size/\ ¬ B'.Ft k:=fun b ob k hm hb hk=>by
  obtain⟨g1,g2,g3⟩:=hi.blk b ob k hb hk;have hno: ¬ B'.Ft k:=by
   rintro ⟨b',ob',hm',hob',hk'⟩;exact hm (hi.dis b b' ob ob' k hb hob' hk hk' ▸ hm')
  refine⟨hmem k g1 hno,fun hf=> ?_,g1,hno⟩;rcases(fr2.fz k hf).2 with hF|hF|hle;·exact g2 hF
  ·exact hno hF
  ·have:w.heap.size<=k:=hle;omega
 refine hK v ρ3 F2 w2 hgr ⟨fr2.os.trans fr.os,fr2.tape.trans fr.tape,fr2.output.trans fr.output,dC fr.size fr2.size,fun k hk hn=> ?_,fun b p hb=>hgr.rho b p (fr.rho b p hb),fun k hk=> ⟨(fr2.fz k hk).1, ?_⟩,fun k hk=>fr2.bf k (fr.bf k hk)⟩
  ⟨fun b=>if get hout b≠none then ft2 b else ft b,fun b ob hb=> ?_,fun b ob k hb hk=> ?_,fun b1 b2 ob1 ob2 k h1 h2 e1 e2=> ?_,fun b hb=> ?_,GL.gr g23 hi2.gl⟩ (hr2.gr g23)
 ·refine(hmem k (by have:=fr.size;omega) fun e=> ?_).trans (fr.mem k hk hn);rcases(hown k e).2 with hb'|hle
  ·exact hn hb'
  ·omega
 ·rcases(fr2.fz k hk).2 with hF|hF|hle
  ·exact(fr.fz k hF).2
  ·rcases(hown k hF).2 with q|q
   ·exact .inr (.inl q)
   ·exact .inr (.inr q)
  ·exact .inr (.inr (dC fr.size hle))
 ·rcases hcase b ob hb with⟨h1,_⟩|⟨h1,h2,h3,h4⟩
  ·simp only [h1,ne_eq,reduceCtorEq,not_false_eq_true,if_true];exact(hi2.obj b ob h1).keep g23 (fun _ h=>h) fun _ _=>rfl
  ·simp only [h1,ne_eq,not_true_eq_false,if_false];exact(hi.obj b ob h3).keep hgr (fun _ h=>h) fun k hk=>(hkeep b ob k h2 h3 hk).1
 ·rcases hcase b ob hb with⟨h1,h2⟩|⟨h1,h2,h3,h4⟩
  ·simp only [h1,ne_eq,reduceCtorEq,not_false_eq_true,if_true]at hk;obtain⟨g1,g2,g3⟩:=hi2.blk b ob k h1 hk;refine⟨g1,g2, ?_⟩;rcases g3 with ho|hle
   ·exact(hown k ho).2
   ·exact .inr (dC fr.size hle)
  ·simp only [h1,ne_eq,not_true_eq_false,if_false]at hk;obtain⟨g1,g2,g3,_⟩:=hkeep b ob k h2 h3 hk;exact⟨eJ g3 fr2.size,g2,(hi.blk b ob k h3 hk).2.2⟩
 ·rcases hcase b1 ob1 h1 with⟨p1,p2⟩|⟨p1,p2,p3,p4⟩<;>rcases hcase b2 ob2 h2 with⟨q1,q2⟩|⟨q1,q2,q3,q4⟩<;>simp only [p1,q1,ne_eq,reduceCtorEq,not_false_eq_true,not_true_eq_false,if_true,if_false]at e1 e2
  ·exact hi2.dis b1 b2 ob1 ob2 k p1 q1 e1 e2
  ·obtain⟨_,_,g3,g4⟩:=hkeep b2 ob2 k q2 q3 e2;rcases(hi2.blk b1 ob1 k p1 e1).2.2 with ho|hle
   ·exact absurd ho g4
   ·have:w.heap.size<=k:=hle;omega
  ·obtain⟨_,_,g3,g4⟩:=hkeep b1 ob1 k p2 p3 e1;rcases(hi2.blk b2 ob2 k q1 e2).2.2 with ho|hle
   ·exact absurd ho g4
   ·have:w.heap.size<=k:=hle;omega
  ·exact hi.dis b1 b2 ob1 ob2 k p3 q3 e1 e2
 ·rw [hu]at hb;cases hg:get hout b with
  |some x=>rw [hg]at hb;simp at hb
  |none=>
   rw [hg]at hb;by_cases hm:b∈ids;·simp [hm]at hb
   ·simp only [hm,if_false]at hb;simp [ρ3,hg,hi.fresh b hb]
theorem zu {ids:List Nat} {res:TV} {hin hout:List (Nat × Option Ob)} {args:List SV} {xs:List TV} {obs:List (Option (Option Ob))} {vs:List Value}
  (hzip:bJ ids obs=some hin) (hargs:gT xs=some args) (hb:(bZ (args.flatMap SV.bP) ids && bZ (dF (obs.take ids.length)) ids && fE ids (hout.map (·.1)) (obs.drop ids.length))=true)
  (hobs:obs=(ids++hout.map (·.1)).map h) (fr:Fr B ρ F w) (hi:HI B ρ F w h) (hx:dG ρ F w xs vs)
  (hup: ∀B':Base,B'.w=w->B'.ρ=pO ρ ids->(∀k,B'.F k->k<B'.w.heap.size)->HI B' B'.ρ B'.F B'.w (aP hin)->dm B'.ρ B'.F B'.w args vs->
   ∀(r:Option Nat) (K:Act->World->Prop) (Q:Exit->Act->World->Prop),(∀v w',Post B' res hout v w'->K (a.put o.dst v) w')->o.wpIn (FW r) 0 P a w K Q):Good P B ρ F w h o a res (hout++ids.map (fun i=>(i,none))):=by
 intro r K Q hK;refine AZ (X:=fun K'=> ∀K:Act->World->Prop,(∀v w',K' v w'->K (a.put o.dst v) w')->o.wpIn (FW r) 0 P a w K Q) hzip hargs hb hobs fr hi hx (fun B' hw hρ hF hi' hxs K' hK' K hKK=>hup B' hw hρ hF hi' hxs r K Q fun v w' hp=>hKK v w' (hK' v w' hp))
  (fun v w'=>K (a.put o.dst v) w') (fun v ρ' F' w' g f hi' hr=>hK v ρ' F' w' g f hi' hr) K (fun _ _ h=>h)
theorem yP: ∀{is:List Nat} {os os':List (Option (Option Ob))} {m:List (Nat × Option Ob)},bJ is os=some m->bJ is (os++os')=some m
 |[],os,os',m,h=>by simpa [bJ]using h
 |i::is,some (some o)::os,os',m,h=>by
  simp only [bJ]at h;split at h
  ·rename_i l hl;simp only [dE,bJ,yP (os':=os') hl];exact h
  ·cases h
 |_::_,[],_,_,h=>by simp [bJ]at h
 |_::_,none::_,_,_,h=>by simp [bJ]at h
 |_::_,some none::_,_,_,h=>by simp [bJ]at h
theorem vK: ∀{is:List Nat} {os:List (Option (Option Ob))} {m:List (Nat × Option Ob)},bJ is os=some m->m.map (·.1)=is
 |[],os,m,h=>by simp [bJ]at h;subst h;rfl
 |i::is,some (some o)::os,m,h=>by
  simp only [bJ]at h;split at h;·rename_i l hl;cases h;simp [vK hl]
  ·cases h
 |_::_,[],_,h=>by simp [bJ]at h
 |_::_,none::_,_,h=>by simp [bJ]at h
 |_::_,some none::_,_,h=>by simp [bJ]at h
theorem vQ: ∀{ids ks:List Nat} {os:List (Option (Option Ob))},ks.length=os.length->(∀k∈ks,k∈ids)->fE ids ks os=true
 |_,[],_,_,_=>by simp [fE]
 |ids,k::ks,o::os,hl,h=>by
  simp only [fE,jw.2 (h k (by simp)),bt,cP];exact vQ (by simpa using hl) fun k hk=>h k (by simp [hk])
 |_,_::_,[],hl,_=>by simp at hl
theorem GI {f:Nat} {Fc:Cl->List SV->List (Nat × Option Ob)->TV->List (Nat × Option Ob)->Prop} (hFc:Fc (.fn f)=Fn P f) {xs:List TV} {an:iJ} {obs:List (Option (Option Ob))} {E:Eff} {vs:List Value} (he:kS Fc an (.fn f) xs obs=some E) (hc:All E.conds)
  (hobs: ∀ids res hout,an= .call ids res hout->obs=(ids++hout.map (·.1)).map h) (hobs2: ∀ids res,an= .callR ids res->obs=ids.map h) (hrun:(execOp a.eval o).run P w=(callFunc f vs.toArray).run P w)
  (fr:Fr B ρ F w) (hi:HI B ρ F w h) (hx:dG ρ F w xs vs):Good P B ρ F w h o a E.tv E.hd:=by
 unfold kS at he;split at he
 ·rename_i ids res hout;have hobs:=hobs ids res hout rfl;split at he
  ·rename_i args hin hargs hzip;cases hb:(bZ (args.flatMap SV.bP) ids && bZ (dF (obs.take ids.length)) ids && fE ids (hout.map (·.1)) (obs.drop ids.length))with
   |false=>simp [hb]at he
   |true=>
    simp only [hb,Cl.ids,bZ,Bool.and_self,bt]at he;cases he;rw [hFc]at hc;obtain⟨⟨hent,hfn⟩,_⟩:=hc;refine zu hzip hargs hb hobs fr hi hx fun B' hw _ hF hi' hxs r K Q hK=> ?_;have hen:(callFunc f vs.toArray).run P w= .ok (.enter f vs.toArray) w:=by
     obtain⟨fn,e1,e2,e3⟩:=hent;simp only [callFunc,eC,run_program,eA,e1,e2,e3,Bool.false_eq_true,if_false];rfl
    refine mQ r (jm (hrun.trans hen) (fun _ h=>by cases h)) ?_;simp only [Oper.wp,hrun,hen,Oper.upon];subst hw;refine(hfn B' vs hF hi' hxs).mono ?_;rintro e w2 ⟨v,ρ2,F2,rfl,fr2,hi2,hr2⟩;exact hK v w2 ⟨ρ2,F2,fr2,hi2,hr2⟩
  ·cases he
 ·-- the objects are lent, and come back as they were
  rename_i ids res;have hobs:=hobs2 ids res rfl;simp only at he;split at he
  ·rename_i args hin hargs hzip;cases hb:(bZ (args.flatMap SV.bP) ids && bZ (dF (obs.take ids.length)) ids)with
   |false=>simp [hb]at he
   |true=>
    simp only [hb,bt]at he;cases he;rw [hFc]at hc;obtain⟨⟨hent,hfn⟩,_⟩:=hc;have hk:=vK hzip;have hlen:(ids.map h).length=ids.length:=by simp
    have hzip':bJ ids ((ids++hin.map (·.1)).map h)=some hin:=by
     rw [List.map_append,<-hobs];exact yP hzip
    have htk:((ids++hin.map (·.1)).map h).take ids.length=obs.take ids.length:=by
     rw [List.map_append,hobs,eQ (by rw [hlen];exact cx _)]
    have hb':(bZ (args.flatMap SV.bP) ids && bZ (dF (((ids++hin.map (·.1)).map h).take ids.length)) ids && fE ids (hin.map (·.1)) (((ids++hin.map (·.1)).map h).drop ids.length))=true:=by
     rw [htk,hb,cP];refine vQ (by simp) fun k hk'=>by rw [hk]at hk';exact hk'
    have hback:upd h (hin++ids.map (fun i=>(i,none)))=h:=by
     obtain⟨z1,z2,z3,_⟩:=pz hzip
     funext b
     rw [zM,get_append,EL];cases hg:get hin b with
     |some x=>
      obtain⟨j,ob,e1,e2,e3⟩:=z2 b x hg;rw [hobs,dj,e1]at e2;simp only [Option.map_some,Option.some.injEq]at e2;simp only [e3,e2]
     |none=>
      have:b ∉ ids:=fun hm=>z3 b hm hg;simp [this]
    have hgood:Good P B ρ F w h o a res (hin++ids.map (fun i=>(i,none))):=by
     refine zu hzip' hargs hb' rfl fr hi hx fun B' hw _ hF hi' hxs r K Q hK=> ?_;have hen:(callFunc f vs.toArray).run P w= .ok (.enter f vs.toArray) w:=by
      obtain⟨fn,e1,e2,e3⟩:=hent;simp only [callFunc,eC,run_program,eA,e1,e2,e3,Bool.false_eq_true,if_false];rfl
     refine mQ r (jm (hrun.trans hen) (fun _ h=>by cases h)) ?_;simp only [Oper.wp,hrun,hen,Oper.upon];subst hw;refine(hfn B' vs hF hi' hxs).mono ?_;rintro e w2 ⟨v,ρ2,F2,rfl,fr2,hi2,hr2⟩;exact hK v w2 ⟨ρ2,F2,fr2,hi2,hr2⟩
    intro r K Q hK;refine hgood r K Q fun v ρ' F' w' g f' hi' hr'=>hK v ρ' F' w' g f' ?_ hr';rw [hback]at hi';exact hi'
  ·cases he
 ·cases he
def Yl (P:Program) (b:Nat) (args:List SV) (hin:List (Nat × Option Ob)) (res:TV) (hout:List (Nat × Option Ob)):Prop:=
 ∀(B:Base) (vs:List Value) (l base cap:Nat),(∀k,B.F k->k<B.w.heap.size)->HI B B.ρ B.F B.w (aP hin)->dm B.ρ B.F B.w args vs->B.ρ b=some (.blk l base cap)->
  ∃fn tmps assign body,(Instr.yield l vs.toArray).run P B.w= .ok (.round l fn tmps assign body) B.w/\
   RoundIn (FW none) 0 P l fn tmps assign body B.w fun e w'=> ∃v,e= .returned v/\Post B res hout v w'
def vF (P:Program):Cl->List SV->List (Nat × Option Ob)->TV->List (Nat × Option Ob)->Prop
 | .fn f=>Fn P f
 | .yl b=>Yl P b
theorem Mg {b:Nat} {xs:List TV} {an:iJ} {obs:List (Option (Option Ob))} {E:Eff} {vs:List Value} (he:kS (vF P) an (.yl b) xs obs=some E) (hc:All E.conds) (hd:Dh o.op=false)
  (hobs: ∀ids res hout,an= .call ids res hout->obs=(ids++hout.map (·.1)).map h) (hrun: ∀l base cap,ρ b=some (.blk l base cap)->(execOp a.eval o).run P w=(Instr.yield l vs.toArray).run P w)
  (fr:Fr B ρ F w) (hi:HI B ρ F w h) (hx:dG ρ F w xs vs) (hbk: ∃l base cap,ρ b=some (.blk l base cap)):Good P B ρ F w h o a E.tv E.hd:=by
 unfold kS at he;split at he
 ·rename_i ids res hout;have hobs:=hobs ids res hout rfl;split at he
  ·rename_i args hin hargs hzip;cases hm:bZ [b] ids with
   |false=>simp [hm,Cl.ids]at he
   |true=>
   cases hb:(bZ (args.flatMap SV.bP) ids && bZ (dF (obs.take ids.length)) ids && fE ids (hout.map (·.1)) (obs.drop ids.length))with
   |false=>simp [hb,hm,Cl.ids]at he
   |true=>
    simp only [hb,hm,Cl.ids,Bool.and_self,bt]at he;cases he;obtain⟨hfn,_⟩:=hc;have hbm:b∈ids:=bU.1 hm b (by simp);obtain⟨l,base,cap,hl⟩:=hbk;refine zu (ids:=ids) hzip hargs hb hobs fr hi hx fun B' hw hρ hF hi' hxs r K Q hK=> ?_;subst hw;obtain⟨fn,tmps,assign,body,hy,hr⟩:=hfn B' vs l base cap hF hi' hxs (by rw [hρ,pO,ci hbm];exact hl);refine⟨fun _ _=>trivial, ?_⟩;rw [show o.semAt (FW r).round a.eval=execOp a.eval o from Oper.semAt_eq _ _ _ (fun c hc=>by rw [hc]at hd;cases hd),hrun l base cap hl,hy,Oper.uponIn_round];refine⟨fun hh=>by simp [FW,Fence.wide]at hh, ?_⟩;have hr':RoundIn (FW r) (0 - 1) P l fn tmps assign body B'.w fun e w'=> ∃v,e= .returned v/\Post B' res hout v w':=hr;refine hr'.mono ?_;rintro e w2 ⟨v,rfl,hp⟩;exact hK v w2 hp
  ·cases he
 ·cases he
 ·cases he
end
section
variable {P:Program} {B:Base} {ρ ρ':Nat->Option Pl} {F F':Nat->Prop} {w w':World} {h:Hp} {o:Oper} {a:Act} {T:List (Nat × TI)}
theorem KN {t:TypeId} {x:Operand} {ti:TI} {ds:List DV} {xa:TV} {obs:List (Option (Option Ob))} {E:Eff} (ht:eG P t ti) (hop:o.op= .load t x) (he:Eo ti ds xa obs=some E) (hc:All E.conds)
  (hobs:obs=(foot .none 0 (.load t x) [xa]).map h) (fr:Fr B ρ F w) (hi:HI B ρ F w h) (hx:bE ρ F w xa (a.eval x)):Good P B ρ F w h o a E.tv E.hd:=by
 unfold Eo at he;split at he
 ·rename_i n c;obtain⟨ad,hv,hs,hcell⟩:=hx;cases hb:(Nat.ble ti.size n && Nat.beq ds.length ti.size)with
  |false=>simp [hb]at he
  |true=>
   simp only [hb,bt]at he;simp only [cd]at hb;have hle:=cj hb.1;have hlen:=bv hb.2;split at he
   ·rename_i s hsv;cases he;obtain⟨hq,_⟩:=hc;obtain⟨ak,aoff,asp⟩:=ad;simp at hs;subst hs;obtain⟨v,h1,h2⟩:=iA (P:=P) (ρ:=ρ) (F:=F) (w:=w) ht hsv (by simp [hlen]) (k:=ak) (off:=aoff) fun j cv hj=>by
     rw [dj]at hj;obtain⟨d,hd,rfl⟩:=Option.map_eq_some_iff.1 hj;have hlt:j<ti.size:=by rw [<-hlen];exact(List.getElem?_eq_some_iff.1 hd).1
     obtain⟨_,u,hu,hr⟩:=hcell j (by omega);have e:=hq 0 (by omega) j hlt;have e':c j=d:=e.trans (by show ds.getD j .nilp=d;rw [cS,hd];rfl);exact⟨u,by simpa using hu,by rw [e']at hr;exact hr⟩
    exact aH fr hi (wS hop hv h1) h2
   ·cases he
 ·rename_i b off E' cs;obtain⟨k,base,cap,hk,hv⟩:=hx;split at he
  ·rename_i s hsv;cases he;obtain⟨hle,hq,_⟩:=hc;simp [foot]at hobs;obtain⟨ft,hi⟩:=id hi;obtain⟨k',cap',vs,h1,h0,h2,h3⟩:=hi.obj b _ hobs.symm;rw [hk]at h1;cases h1;rw [cC]at hv;obtain⟨v,g1,g2⟩:=iA (P:=P) (ρ:=ρ) (F:=F) (w:=w) ht hsv (by rw [<-hq];simp;omega) (k:=k) (off:=off) fun j cv hj=>by
    rw [<-hq,List.getElem?_take]at hj;split at hj
    ·rw [List.getElem?_drop]at hj;obtain⟨u,hu,hr⟩:=h3.get hj;exact⟨u,by rw [bS h2];exact hu,hr⟩
    ·cases hj
   exact aH fr ⟨ft,hi⟩ (wS hop hv g1) g2
  ·cases he
 ·cases he
theorem H9 {t:TypeId} {x y:Operand} {ti:TI} {ds:List DV} {xa xv:TV} {an:iJ} {obs:List (Option (Option Ob))} {E:Eff} (ht:eG P t ti) (hop:o.op= .store t x y) (he:Bh ti ds xa xv obs=some E) (hc:All E.conds)
  (hobs:obs=(foot .none 0 (.store t x y) [xa,xv]).map h) (fr:Fr B ρ F w) (hi:HI B ρ F w h) (hx:bE ρ F w xa (a.eval x)) (hy:bE ρ F w xv (a.eval y)):Good P B ρ F w h o a E.tv E.hd:=by
 unfold Bh at he;split at he
 ·rename_i b off s E' cs;cases hb:Nat.beq (cellsOf s).length ti.size with
  |false=>simp [hb]at he
  |true=>
   simp only [hb,bt]at he;have he1:=bv hb;cases he;obtain⟨hle,hq,_⟩:=hc;have he2:vG an ti (.v (.one (.ptr b off))) (.v s) [some (some (.cells E' cs))]=some ⟨[], .eB [],[(b,some (.cells E' (ds.map .d)))]⟩:=by
    have:Nat.ble (off+ti.size) cs.length=true:=Nat.ble_eq_true_of_le hle;simp only [vG,hb,this,Bool.and_self,bt,hq]
   exact Ci (E:=⟨[], .eB [],[(b,some (.cells E' (ds.map .d)))]⟩) ht hop he2 trivial hobs fr hi hx hy
 ·cases he
theorem Ii (hT:kg P T) {t:TypeId} {x y:Operand} {ti:TI} {ds:List DV} {xa xv:TV} {E:Eff} (ht:eG P t ti) (hop:o.op= .index t x y) (he:Bq T ds ti.d xa xv=some E) (hc:All E.conds)
  (fr:Fr B ρ F w) (hi:HI B ρ F w h) (hx:bE ρ F w xa (a.eval x)) (hy:bE ρ F w xv (a.eval y)):Good P B ρ F w h o a E.tv E.hd:=by
 unfold Bq at he;split at he
 ·rename_i n e cs k i hd;split at he
  ·rename_i te hte;split at he
   ·rename_i s hsv;cases he;obtain⟨⟨hi0,hi1⟩,hle,hq,_⟩:=hc;obtain⟨vs,hv,hr⟩:=hx;have hyv:a.eval y= .int k i:=hy;have hu:=aL (w:=w) ht;rw [hd]at hu;have hs:=dw (w:=w) (hT.get hte);have hg:=pK (w:=w) (hT.get hte);have hsub:bO ρ F w (ds.map .d) ((vs.drop (i.toNat*te.size)).take te.size):=by
     rw [<-hq];refine bO.jJ (by simp [hr.length]) fun j c hj=> ?_;rw [List.getElem?_take]at hj ⊢;split at hj;·rename_i e;rw [ci e];rw [List.getElem?_drop]at hj ⊢;exact hr.get hj
     ·cases hj
    have hl:=hr.length;have hin:(0<=i/\i<(n:Int)):=⟨hi0,hi1⟩;cases hagg:te.agg with
    |true=>
     rw [hagg]at hsv hg;simp [jU]at hsv;subst hsv;refine aH (v:= .agg ((vs.drop (i.toNat*te.size)).take te.size).toArray) fr hi ?_ ⟨_,rfl,hsub⟩;simp [execOp,hop,Instr.index,hu,hv,hyv,asIntOf,part,hg,hs,hin]
    |false=>
     rw [hagg]at hsv hg
     match ds,hsv with
     |[c],hsv=>
      simp [jU]at hsv;subst hsv
      match hvs:(vs.drop (i.toNat*te.size)).take te.size,hsub with
      |[v],hsub=>
       have hsz:te.size≠0:=by
        intro e0;rw [e0]at hvs;simp at hvs
       have hget:vs[i.toNat*te.size]? =some v:=by
        have:=congrArg (·[0]?) hvs;simp only [List.getElem?_take,List.getElem?_drop]at this;rw [ci (by omega)]at this;simpa using this
       have hlt:i.toNat*te.size<vs.length:=(List.getElem?_eq_some_iff.1 hget).1;have hget':vs[i.toNat*te.size]=v:=by rw [cR hlt]at hget;exact Option.some.inj hget
       refine aH (v:=v) fr hi ?_ hsub.1;simp [execOp,hop,Instr.index,hu,hv,hyv,asIntOf,part,hg,hs,hin,hlt,hget']
   ·cases he
  ·cases he
 ·cases he
theorem Px {op:BinOp} {t t':TypeId} {x y:Operand} {ti:TI} {dx dy:DV} {E:Eff} (ht:eG P t ti) (hop:o.op= .binOp op t x y t') (he:K8 op ti.d dx dy=some E)
  (fr:Fr B ρ F w) (hi:HI B ρ F w h) (hx:bG F w dx (a.eval x)) (hy:bG F w dy (a.eval y)):Good P B ρ F w h o a E.tv E.hd:=by
 have hu:=aL (w:=w) ht;have key: ∀{n:Bool} {esz len esz':Nat} {el el':Nat->Nat->DV},bG F w (.sl (some n) esz len el) (a.eval x)->bG F w (.sl (some false) esz' 0 el') (a.eval y)->
   ∃ad l c,a.eval x= .slice ad l c/\ad.isNone=(!n)/\a.eval y= .slice none 0 0:=by
  rintro n esz len esz' el el' ⟨ad,cap,hv,h1,h2,h3,_⟩ ⟨ad',cap',hv',_,g2,g3,_⟩;have:=g2 rfl;subst this;obtain⟨_,rfl⟩:=g3 rfl;refine⟨ad,len,cap,hv, ?_,hv'⟩;cases n with
  |true=>have:=h1 rfl;cases ad<;>simp_all
  |false=>have:=h2 rfl;subst this;rfl
 unfold K8 at he;split at he
 ·rename_i e n esz len el esz' el' hd;cases bK he;obtain⟨ad,l,c,e1,e2,e3⟩:=key hx hy;rw [hd]at hu;refine aH (v:= .bool (!n)) fr hi (iR hop ?_ ?_) rfl
  ·rw [e1,e3];rfl
  ·rw [e1,e3];show(do pure (Value.bool (<-Op.equal t _ _)):Sem Value).run P w=_;have:(Op.equal t (.slice ad l c) (.slice none 0 0)).run P w= .ok ad.isNone w:=by
    show(Op.equalIn (9999+1) t _ _).run P w=_;rw [Op.equalIn];cases ad<;>simp [hu]
   simp only [eC,this,eA,e2];rfl
 ·rename_i e n esz len el esz' el' hd;cases bK he;obtain⟨ad,l,c,e1,e2,e3⟩:=key hx hy;rw [hd]at hu;refine aH (v:= .bool n) fr hi (iR hop ?_ ?_) rfl
  ·rw [e1,e3];rfl
  ·rw [e1,e3];show(do pure (Value.bool (!(<-Op.equal t _ _))):Sem Value).run P w=_;have:(Op.equal t (.slice ad l c) (.slice none 0 0)).run P w= .ok ad.isNone w:=by
    show(Op.equalIn (9999+1) t _ _).run P w=_;rw [Op.equalIn];cases ad<;>simp [hu]
   simp only [eC,this,eA,e2,Bool.not_not];rfl
 ·cases he
theorem IC {op:BinOp} {t t':TypeId} {x y:Operand} {ti:TI} {b off:Nat} {E:Eff} (ht:eG P t ti) (hop:o.op= .binOp op t x y t') (he:Bv op ti.d=some E)
  (fr:Fr B ρ F w) (hi:HI B ρ F w h) (hx:dK ρ F w (.ptr b off) (a.eval x)) (hy:bG F w .nilp (a.eval y)):Good P B ρ F w h o a E.tv E.hd:=by
 have hu:=aL (w:=w) ht;obtain⟨k,base,cap,_,e1⟩:=hx;have e3:a.eval y= .pointer none:=hy;have key: ∀e,ti.d= .pointer e->(Op.equal t (.pointer (some ⟨k,base+off,none⟩)) (.pointer none)).run P w= .ok false w:=fun e hd=>by
  rw [hd]at hu;show(Op.equalIn (9999+1) t _ _).run P w=_;rw [Op.equalIn];simp [hu]
 unfold Bv at he;split at he
 ·rename_i e hd;cases bK he;refine aH (v:= .bool false) fr hi (iR hop ?_ ?_) rfl
  ·rw [e1,e3];rfl
  ·rw [e1,e3];show(do pure (Value.bool (<-Op.equal t _ _)):Sem Value).run P w=_;simp only [eC,key e hd,eA];rfl
 ·rename_i e hd;cases bK he;refine aH (v:= .bool true) fr hi (iR hop ?_ ?_) rfl
  ·rw [e1,e3];rfl
  ·rw [e1,e3];show(do pure (Value.bool (!(<-Op.equal t _ _))):Sem Value).run P w=_;simp only [eC,key e hd,eA];rfl
 ·cases he
theorem JI {op:BinOp} {t t':TypeId} {x y:Operand} {ti:TI} {v:Bool} {dy:DV} {E:Eff} (ht:eG P t ti) (hop:o.op= .binOp op t x y t') (he:M5 v op ti.d dy=some E)
  (fr:Fr B ρ F w) (hi:HI B ρ F w h) (hx: ∃p:Option Addr,a.eval x= .pointer p/\p.isNone=v) (hy:bG F w dy (a.eval y)):Good P B ρ F w h o a E.tv E.hd:=by
 have hu:=aL (w:=w) ht;obtain⟨p,e1,hv⟩:=hx;have key: ∀e,ti.d= .pointer e->(Op.equal t (.pointer p) (.pointer none)).run P w= .ok v w:=fun e hd=>by
  rw [hd]at hu;show(Op.equalIn (9999+1) t _ _).run P w=_;rw [Op.equalIn];subst hv;cases p<;>simp [hu]
 unfold M5 at he;split at he
 ·rename_i e hd;cases bK he;have e3:a.eval y= .pointer none:=hy;refine aH (v:= .bool v) fr hi (iR hop ?_ ?_) rfl
  ·rw [e1,e3];rfl
  ·rw [e1,e3];show(do pure (Value.bool (<-Op.equal t _ _)):Sem Value).run P w=_;simp only [eC,key e hd,eA];rfl
 ·rename_i e hd;cases bK he;have e3:a.eval y= .pointer none:=hy;refine aH (v:= .bool (!v)) fr hi (iR hop ?_ ?_) rfl
  ·rw [e1,e3];rfl
  ·rw [e1,e3];show(do pure (Value.bool (!(<-Op.equal t _ _))):Sem Value).run P w=_;simp only [eC,key e hd,eA];rfl
 ·cases he
end
def fT:DV->Value
 | .int k n=> .int k n
 | .bool b=> .bool b
 | .str s=> .string s
 |_=>undef
def eD (agg:Bool) (vs:List Value):Value:=bif agg then .agg vs.toArray else vs.headD undef
theorem pY {ρ:Nat->Option Pl} {F:Nat->Prop} {w:World}: ∀{ks:List KD} {ds:List DV} {vs:List Value},ax ks ds=true->bO ρ F w (ds.map .d) vs->vs=ds.map fT
 |[],[],[],_,_=>rfl
 | .i k::ks, .int k' n::ds,v::vs,hk,⟨h1,h2⟩=>by
  simp only [ax,cd]at hk;have:v= .int k' n:=h1;rw [this,pY hk.2 h2];rfl
 | .b::ks, .bool b::ds,v::vs,hk,⟨h1,h2⟩=>by
  have:v= .bool b:=h1;rw [this,pY (ks:=ks) hk h2];rfl
 | .s::ks, .str b::ds,v::vs,hk,⟨h1,h2⟩=>by
  have:v= .string b:=h1;rw [this,pY (ks:=ks) hk h2];rfl
 |_,[],_::_,_,h=>h.elim
 |_,_::_,[],_,h=>h.elim
 |_::_,[],_,hk,_=>by simp [ax]at hk
 |[],_::_,_,hk,_=>by simp [ax]at hk
 | .b::_, .int _ _::_,_,hk,_=>by simp [ax]at hk
 | .s::_, .int _ _::_,_,hk,_=>by simp [ax]at hk
 | .i _::_, .bool _::_,_,hk,_=>by simp [ax]at hk
 | .s::_, .bool _::_,_,hk,_=>by simp [ax]at hk
 | .i _::_, .str _::_,_,hk,_=>by simp [ax]at hk
 | .b::_, .str _::_,_,hk,_=>by simp [ax]at hk
 |_::_, .sl _ _ _ _::_,_,hk,_=>by simp [ax]at hk
 |_::_, .ip _ _::_,_,hk,_=>by simp [ax]at hk
 |_::_, .nilp::_,_,hk,_=>by simp [ax]at hk
 |_::_, .fn _ _ _::_,_,hk,_=>by simp [ax]at hk
 |_::_, .fna _ _ _::_,_,hk,_=>by simp [ax]at hk
 |_::_, .nilf::_,_,hk,_=>by simp [ax]at hk
 |_::_, .nilm::_,_,hk,_=>by simp [ax]at hk
theorem eu: ∀{ks:List KD} {ds:List DV},ax ks ds=true->ds.length=ks.length
 |[],[],_=>rfl
 | .i k::ks, .int k' n::ds,hk=>by
  simp only [ax,cd]at hk;simp [eu hk.2]
 | .b::ks, .bool b::ds,hk=>by simp [eu (ks:=ks) hk]
 | .s::ks, .str b::ds,hk=>by simp [eu (ks:=ks) hk]
 |_::_,[],hk=>by simp [ax]at hk
 |[],_::_,hk=>by simp [ax]at hk
 | .b::_, .int _ _::_,hk=>by simp [ax]at hk
 | .s::_, .int _ _::_,hk=>by simp [ax]at hk
 | .i _::_, .bool _::_,hk=>by simp [ax]at hk
 | .s::_, .bool _::_,hk=>by simp [ax]at hk
 | .i _::_, .str _::_,hk=>by simp [ax]at hk
 | .b::_, .str _::_,hk=>by simp [ax]at hk
 |_::_, .sl _ _ _ _::_,hk=>by simp [ax]at hk
 |_::_, .ip _ _::_,hk=>by simp [ax]at hk
 |_::_, .nilp::_,hk=>by simp [ax]at hk
 |_::_, .fn _ _ _::_,hk=>by simp [ax]at hk
 |_::_, .fna _ _ _::_,hk=>by simp [ax]at hk
 |_::_, .nilf::_,hk=>by simp [ax]at hk
 |_::_, .nilm::_,hk=>by simp [ax]at hk
theorem fP: ∀{ks ks':List KD} {ds:List DV},ax (ks++ks') ds=true-> ∃d1 d2,ds=d1++d2/\ax ks d1=true/\ax ks' d2=true
 |[],ks',ds,hk=> ⟨[],ds,rfl,rfl,hk⟩
 | .i k::ks,ks', .int k' n::ds,hk=>by
  simp only [dE,ax,cd]at hk;obtain⟨d1,d2,e,h1,h2⟩:=fP hk.2;exact⟨.int k' n::d1,d2,by rw [e];rfl,by simp [ax,hk.1,h1],h2⟩
 | .b::ks,ks', .bool b::ds,hk=>by
  simp only [dE,ax]at hk;obtain⟨d1,d2,e,h1,h2⟩:=fP hk;exact⟨.bool b::d1,d2,by rw [e];rfl,by simp [ax,h1],h2⟩
 | .s::ks,ks', .str b::ds,hk=>by
  simp only [dE,ax]at hk;obtain⟨d1,d2,e,h1,h2⟩:=fP hk;exact⟨.str b::d1,d2,by rw [e];rfl,by simp [ax,h1],h2⟩
 |_::_,_,[],hk=>by simp [ax]at hk
 | .b::_,_, .int _ _::_,hk=>by simp [ax]at hk
 | .s::_,_, .int _ _::_,hk=>by simp [ax]at hk
 | .i _::_,_, .bool _::_,hk=>by simp [ax]at hk
 | .s::_,_, .bool _::_,hk=>by simp [ax]at hk
 | .i _::_,_, .str _::_,hk=>by simp [ax]at hk
 | .b::_,_, .str _::_,hk=>by simp [ax]at hk
 |_::_,_, .sl _ _ _ _::_,hk=>by simp [ax]at hk
 |_::_,_, .ip _ _::_,hk=>by simp [ax]at hk
 |_::_,_, .nilp::_,hk=>by simp [ax]at hk
 |_::_,_, .fn _ _ _::_,hk=>by simp [ax]at hk
 |_::_,_, .fna _ _ _::_,hk=>by simp [ax]at hk
 |_::_,_, .nilf::_,hk=>by simp [ax]at hk
 |_::_,_, .nilm::_,hk=>by simp [ax]at hk
theorem yN: ∀{d1 e1 d2 e2:List DV} {b:Bool},d1.length=e1.length->iy (d1++d2) (e1++e2)=some b-> ∃b1 b2,iy d1 e1=some b1/\iy d2 e2=some b2/\b=(b1 && b2)
 |[],[],d2,e2,b,_,he=> ⟨true,b,rfl,he,by simp⟩
 |x::d1,y::e1,d2,e2,b,hl,he=>by
  simp only [dE,iy]at he;split at he
  ·rename_i p q h1 h2;cases he;obtain⟨b1,b2,g1,g2,g3⟩:=yN (by simpa using hl) h2;exact⟨p && b1,b2,by simp [iy,h1,g1],g2,by rw [g3,Bool.and_assoc]⟩
  ·cases he
 |[],_::_,_,_,_,hl,_=>by simp at hl
 |_::_,[],_,_,_,hl,_=>by simp at hl
section
variable {P:Program} {B:Base} {ρ ρ':Nat->Option Pl} {F F':Nat->Prop} {w w':World} {h:Hp} {o:Oper} {a:Act} {T:List (Nat × TI)}
theorem uQ {t:TypeId} {ti:TI} (ht:eG P t ti) {pre dl post:List DV} (hl:dl.length=ti.size) (h1:ti.agg=false->dl.length=1):
  (part t ((pre++(dl++post)).map fT).toArray pre.length).run P w= .ok (eD ti.agg (dl.map fT)) w:=by
 have hs:=dw (w:=w) ht;have hg:=pK (w:=w) ht;cases hagg:ti.agg with
 |true=>
  rw [hagg]at hg;simp only [part,eC,hg,hs,eA,if_true,Sem.run_pure,eD,bt];congr 2;rw [<-hl];simp
 |false=>
  rw [hagg]at hg
  match dl,h1 hagg with
  |[d],_=>
   simp [part,hg,eD]
theorem ru {d:Nat} {t:TypeId} {ti:TI} {ks:List KD} (hf:flatK T d t=some ks) (hti:get T t=some ti) (hagg:ti.agg=false):ks.length=1:=by
 cases d with
 |zero=>simp [flatK]at hf
 |succ d=>
  unfold flatK at hf;rw [hti]at hf;simp only at hf;split at hf
  ·cases hb:Nat.beq ti.size 1 with
   |true=>simp only [hb,bt]at hf;cases hf;rfl
   |false=>simp [hb]at hf
  ·cases hb:Nat.beq ti.size 1 with
   |true=>simp only [hb,bt]at hf;cases hf;rfl
   |false=>simp [hb]at hf
  ·cases hb:Nat.beq ti.size 1 with
   |true=>simp only [hb,bt]at hf;cases hf;rfl
   |false=>simp [hb]at hf
  ·rename_i hd;simp [TI.agg,hd]at hagg
  ·rename_i hd;simp [TI.agg,hd]at hagg
  ·cases hf
theorem zZ (hT:kg P T) {d D:Nat} (ih: ∀t ks ti,flatK T d t=some ks->get T t=some ti->ks.length=ti.size/\ ∀w ds es b,ax ks ds=true->ax ks es=true->iy ds es=some b->(Op.equalIn D t (eD ti.agg (ds.map fT)) (eD ti.agg (es.map fT))).run P w= .ok b w):
  ∀(fs:List Field) (ks:List KD) (off:Nat) (pre pre' ds es:List DV) (b:Bool) (w:World),flatK.flatFs T (flatK T d) off fs=some ks->pre.length=off->pre'.length=off->ax ks ds=true->ax ks es=true->iy ds es=some b->
   (Op.eqFields D ((pre++ds).map fT).toArray ((pre'++es).map fT).toArray fs).run P w= .ok b w
 |[],ks,off,pre,pre',ds,es,b,w,hf,hp,hp',hk,hk',he=>by
  simp [flatK.flatFs]at hf;subst hf
  match ds,es,hk,hk' with
  |[],[],_,_=>simp [iy]at he;subst he;simp [Op.eqFields]
 |f::fs,ks,off,pre,pre',ds,es,b,w,hf,hp,hp',hk,hk',he=>by
  simp only [flatK.flatFs]at hf;split at hf
  ·rename_i l tf h1 h2;cases hb:(Nat.beq f.offset off && Nat.beq l.length tf.size && !(f.name== "_"))with
   |false=>simp [hb]at hf
   |true=>
    simp only [hb,bt]at hf;simp only [cd,c_]at hb;have e1:=bv hb.1.1;have e2:=bv hb.1.2;have hname:f.name≠ "_" :=by simpa using hb.2
    split at hf
    ·rename_i m hm;cases hf;obtain⟨d1,d2,rfl,k1,k2⟩:=fP hk;obtain⟨c1,c2,rfl,k1',k2'⟩:=fP hk';have l1:=eu k1;have l1':=eu k1';obtain⟨b1,b2,q1,q2,rfl⟩:=yN (by rw [l1,l1']) he;have p1:=uQ (w:=w) (hT.get h2) (pre:=pre) (dl:=d1) (post:=d2) (by rw [l1,e2]) (fun ha=>by rw [l1];exact ru h1 h2 ha);have p2:=uQ (w:=w) (hT.get h2) (pre:=pre') (dl:=c1) (post:=c2) (by rw [l1',e2]) (fun ha=>by rw [l1'];exact ru h1 h2 ha);rw [hp,<-e1]at p1;rw [hp',<-e1]at p2;have q:=(ih _ _ _ h1 h2).2 w d1 c1 b1 k1 k1' q1;simp only [Op.eqFields,ne_eq,hname,not_false_eq_true,if_true,eC,p1,p2,q,eA];by_cases hb1:b1=true
     ·subst hb1;simp only [cD,Bool.false_eq_true,if_false,cP];have:=zZ hT ih fs m (off+l.length) (pre++d1) (pre'++c1) d2 c2 b2 w hm (by simp [hp,l1]) (by simp [hp',l1']) k2 k2' q2;rw [cQ,cQ]at this;exact this
     ·have:b1=false:=by simpa using hb1
      subst this;simp
    ·cases hf
  ·cases hf
theorem Cq (hT:kg P T) {D:Nat} {e:TypeId} {l:List KD} {te:TI} (hte:get T e=some te) (hl:l.length=te.size) (h1:te.agg=false->l.length=1)
  (ih: ∀w ds es b,ax l ds=true->ax l es=true->iy ds es=some b->(Op.equalIn D e (eD te.agg (ds.map fT)) (eD te.agg (es.map fT))).run P w= .ok b w) (xs ys:Array Value):
  ∀(n start:Nat) (pre pre' ds es:List DV) (b:Bool) (w:World),pre.length=start*te.size->pre'.length=start*te.size->ax (List.replicate n l).flatten ds=true->ax (List.replicate n l).flatten es=true->iy ds es=some b->
   xs=((pre++ds).map fT).toArray->ys=((pre'++es).map fT).toArray->
   (forIn (m:=Sem) (List.range' start n) ((none,()):Option Bool × Unit) fun i _=>do
    if !(<-Op.equalIn D e (<-part e xs (i*te.size)) (<-part e ys (i*te.size)))then pure (ForInStep.done (some false,()))else pure (ForInStep.yield (none,()))).run P w= .ok (if b=true then none else some false,()) w
 |0,start,pre,pre',ds,es,b,w,_,_,hk,hk',he,_,_=>by
  match ds,es,hk,hk' with
  |[],[],_,_=>simp [iy]at he;subst he;simp
 |n+1,start,pre,pre',ds,es,b,w,hp,hp',hk,hk',he,hx,hy=>by
  rw [List.replicate_succ,List.flatten_cons]at hk hk';obtain⟨d1,d2,rfl,k1,k2⟩:=fP hk;obtain⟨c1,c2,rfl,k1',k2'⟩:=fP hk';have l1:=eu k1;have l1':=eu k1';obtain⟨b1,b2,q1,q2,rfl⟩:=yN (by rw [l1,l1']) he;have p1:=uQ (w:=w) (hT.get hte) (pre:=pre) (dl:=d1) (post:=d2) (by rw [l1,hl]) (fun ha=>by rw [l1];exact h1 ha);have p2:=uQ (w:=w) (hT.get hte) (pre:=pre') (dl:=c1) (post:=c2) (by rw [l1',hl]) (fun ha=>by rw [l1'];exact h1 ha);rw [hp,<-hx]at p1;rw [hp',<-hy]at p2;have q:=ih w d1 c1 b1 k1 k1' q1;rw [List.range'_succ,List.forIn_cons];simp only [eC,p1,p2,q,eA];by_cases hb1:b1=true
  ·subst hb1;simp only [cD,Bool.false_eq_true,if_false,cP,Sem.run_pure,eA];exact Cq hT hte hl h1 ih xs ys n (start+1) (pre++d1) (pre'++c1) d2 c2 b2 w (by simp [hp,l1,hl,ee]) (by simp [hp',l1',hl,ee]) k2 k2' q2 (by rw [cQ];exact hx) (by rw [cQ];exact hy)
  ·have:b1=false:=by simpa using hb1
   subst this;simp
theorem oN (hT:kg P T): ∀d D,d<=D-> ∀t ks ti,flatK T d t=some ks->get T t=some ti->ks.length=ti.size/\ ∀w ds es b,ax ks ds=true->ax ks es=true->iy ds es=some b->
  (Op.equalIn D t (eD ti.agg (ds.map fT)) (eD ti.agg (es.map fT))).run P w= .ok b w
 |0,_,_,_,_,_,hf,_=>by simp [flatK]at hf
 |d+1,0,hd,_,_,_,_,_=>absurd hd (by omega)
 |d+1,D+1,hd,t,ks,ti,hf,hti=>by
  have ht:=hT.get hti;unfold flatK at hf;rw [hti]at hf;simp only at hf;split at hf
  ·rename_i k hdd;cases hb:Nat.beq ti.size 1 with
   |false=>simp [hb]at hf
   |true=>
    simp only [hb,bt]at hf;cases hf;refine⟨(bv hb).symm,fun w ds es b hk hk' he=> ?_⟩
    match ds,es,hk,hk',he with
    |[.int k1 x],[.int k2 y],hk,hk',he=>
     simp [ax]at hk hk';subst hk;subst hk';simp [iy,NC]at he;subst he;have hu:=aL (w:=w) ht;rw [hdd]at hu;have hagg:ti.agg=false:=by simp [TI.agg,hdd]
     simp [Op.equalIn,hu,eD,hagg,fT,j6]
    | .int _ _::_::_,_,hk,_,_=>simp [ax]at hk
    |[.int _ _], .int _ _::_::_,_,hk',_=>simp [ax]at hk'
  ·rename_i hdd;cases hb:Nat.beq ti.size 1 with
   |false=>simp [hb]at hf
   |true=>
    simp only [hb,bt]at hf;cases hf;refine⟨(bv hb).symm,fun w ds es b hk hk' he=> ?_⟩
    match ds,es,hk,hk',he with
    |[.bool x],[.bool y],hk,hk',he=>
     simp [iy,NC]at he;subst he;have hu:=aL (w:=w) ht;rw [hdd]at hu;have hagg:ti.agg=false:=by simp [TI.agg,hdd]
     simp [Op.equalIn,hu,eD,hagg,fT]
  ·rename_i hdd;cases hb:Nat.beq ti.size 1 with
   |false=>simp [hb]at hf
   |true=>
    simp only [hb,bt]at hf;cases hf;refine⟨(bv hb).symm,fun w ds es b hk hk' he=> ?_⟩
    match ds,es,hk,hk',he with
    |[.str x],[.str y],hk,hk',he=>
     simp [iy,NC]at he;subst he;have hu:=aL (w:=w) ht;rw [hdd]at hu;have hagg:ti.agg=false:=by simp [TI.agg,hdd]
     simp [Op.equalIn,hu,eD,hagg,fT]
  ·rename_i fs hdd;cases heq:ti.eq with
   |false=>simp [heq]at hf
   |true=>
    simp only [heq,bt]at hf;split at hf
    ·rename_i l hl;cases hb:Nat.beq l.length ti.size with
     |false=>simp [hb]at hf
     |true=>
      simp only [hb,bt]at hf;cases hf;refine⟨bv hb,fun w ds es b hk hk' he=> ?_⟩;have hagg:ti.agg=true:=by simp [TI.agg,hdd]
      have hu:=ht.1;rw [hdd]at hu;have hfs:P.fieldsOf t=fs:=by simp [Program.fieldsOf,hu]
      rw [hagg];simp only [eD,bt];rw [run_equalIn_agg w D t _ _ (by rw [hfs];exact hu) (hT.Yr hti heq).1,hfs];have:=zZ hT (d:=d) (D:=D) (fun t ks ti hf hti=>oN hT d D (by omega) t ks ti hf hti) fs.toList ks 0 [] [] ds es b w hl rfl rfl hk hk' he;simpa using this
    ·cases hf
  ·rename_i n e hdd;split at hf
   ·rename_i l te hl hte;cases hb:(Nat.beq l.length te.size && Nat.beq (List.replicate n l).flatten.length ti.size)with
    |false=>rw [hb]at hf;cases hf
    |true=>
     simp only [hb,bt]at hf;cases hf;simp only [cd]at hb;refine⟨bv hb.2,fun w ds es b hk hk' he=> ?_⟩;have hagg:ti.agg=true:=by simp [TI.agg,hdd]
     have hu:=aL (w:=w) ht;rw [hdd]at hu;have hs:=dw (w:=w) (hT.get hte);have:=Cq (w:=w) hT hte (bv hb.1) (fun ha=>ru hl hte ha) (oN hT d D (by omega) e l te hl hte).2 (ds.map fT).toArray (es.map fT).toArray n 0 [] [] ds es b (by simp) (by simp) hk hk' he (by simp) (by simp);rw [hagg];simp only [eD,bt];rw [Op.equalIn];simp only [eC,hu,hs,eA];simp only [Std.Legacy.Range.forIn_eq_forIn_range',Std.Legacy.Range.size,Nat.sub_zero,Nat.add_sub_cancel,Nat.div_one];rw [this];cases b<;>simp
   ·cases hf
  ·cases hf
theorem Kw (hT:kg P T) {op:BinOp} {t t':TypeId} {x y:Operand} {ti:TI} {xs ys:List CV} {E:Eff} (hti:get T t=some ti) (hop:o.op= .binOp op t x y t') (he:EZ T op t xs ys=some E)
  (fr:Fr B ρ F w) (hi:HI B ρ F w h) (hx:fB ρ F w (.agg xs) (a.eval x)) (hy:fB ρ F w (.agg ys) (a.eval y)) (hagg:ti.agg=true) (hg:P.eqGuardType P.depth t=false):Good P B ρ F w h o a E.tv E.hd:=by
 unfold EZ at he;split at he
 ·rename_i ks ds es hf h1 h2;rw [gF h1]at hx;rw [gF h2]at hy;obtain⟨vs,e1,r1⟩:=hx;obtain⟨us,e2,r2⟩:=hy;cases hb:(ax ks ds && ax ks es)with
  |false=>simp [hb]at he
  |true=>
   simp only [hb,bt]at he;simp only [cd]at hb;rw [pY hb.1 r1]at e1;rw [pY hb.2 r2]at e2;have key: ∀b,iy ds es=some b->(Op.equalIn 10000 t (.agg (ds.map fT).toArray) (.agg (es.map fT).toArray)).run P w= .ok b w:=fun b hb'=>by
    have:=(oN hT 8 10000 (by omega) t ks ti hf hti).2 w ds es b hb.1 hb.2 hb';rw [hagg]at this;exact this
   split at he
   ·rename_i b hb';cases bK he;refine aH (v:= .bool b) fr hi (iR hop ?_ ?_) rfl
    ·rw [e1,e2];exact run_eqGuard_agg w _ t x y _ _ hg
    ·rw [e1,e2,run_eql_struct,key b hb'];rfl
   ·rename_i b hb';cases bK he;refine aH (v:= .bool (!b)) fr hi (iR hop ?_ ?_) rfl
    ·rw [e1,e2];exact run_eqGuard_agg w _ t x y _ _ hg
    ·rw [e1,e2,run_neq_struct,key b hb'];rfl
   ·cases he
 ·cases he
end
section
variable {P:Program} {B:Base} {ρ ρ':Nat->Option Pl} {F F':Nat->Prop} {w w':World} {h:Hp} {o:Oper} {a:Act} {T:List (Nat × TI)}
theorem mg.split {ft:Nat->Nat->Prop} {S1 S2:Nat->Prop} (fr:Fr B ρ F w) (hi:mg B ρ F w h ft) {b c:Nat} {p:Pl} {ob nb nc:Ob} (hb:h b=some (some ob)) (hc:h c=none)
  (h1: ∀k,S1 k->ft b k) (h2: ∀k,S2 k->ft b k) (hd: ∀k,S1 k->S2 k->False) (r1:ig (bN ρ c p) F w S1 b nb) (r2:ig (bN ρ c p) F w S2 c nc):
  mg B (bN ρ c p) F w (upd h [(b,some nb),(c,some nc)]) (qa (qa ft b S1) c S2):=by
 have hρ':=hi.fresh c hc;have hbc:b≠c:=fun e=>by rw [e,hc]at hb;cases hb
 have g:Gr ρ F w (bN ρ c p) F w:=⟨aS hρ',fun _ h=>h,fun _ _=>rfl⟩;have hu: ∀x,upd h [(b,some nb),(c,some nc)] x=if b=x then some (some nb)else if c=x then some (some nc)else h x:=by
  intro x;exact wT _ _ _ _ _
 have fb:qa (qa ft b S1) c S2 b=S1:=by rw [eY hbc,bB]
 have fc:qa (qa ft b S1) c S2 c=S2:=bB _ _ _;refine hi.step g fr (cx _) (fun x=>x=b\/x=c) (fun x ob' e hh=> ?_) (fun x ob' e hh=> ?_) (fun x ob' k e hh hf=> ?_) (fun b1 b2 o1 o2 k e1 e2 _ _ f1 f2=> ?_) (fun k hk=> .inl hk) fun x hh=> ?_
 ·rw [hu,ce (fun e'=>e (.inl e'.symm)),ce (fun e'=>e (.inr e'.symm))]at hh;exact⟨hh,fun _ _=>rfl,fun k=>by rw [eY (fun e'=>e (.inr e')),eY (fun e'=>e (.inl e'))]⟩
 ·rcases e with rfl|rfl
  ·rw [hu,ci rfl]at hh;cases hh;rw [fb];exact r1
  ·rw [hu,ce hbc,ci rfl]at hh;cases hh;rw [fc];exact r2
 ·rcases e with rfl|rfl
  ·rw [fb]at hf;exact .inl ⟨x,ob, .inl rfl,hb,h1 k hf⟩
  ·rw [fc]at hf;exact .inl ⟨b,ob, .inl rfl,hb,h2 k hf⟩
 ·rcases e1 with rfl|rfl<;>rcases e2 with rfl|rfl
  ·rfl
  ·rw [fb]at f1;rw [fc]at f2;exact(hd k f1 f2).elim
  ·rw [fc]at f1;rw [fb]at f2;exact(hd k f2 f1).elim
  ·rfl
 ·rw [hu]at hh;split at hh
  ·cases hh
  ·split at hh
   ·cases hh
   ·rename_i e;rw [show bN ρ c p x=ρ x by simp [bN,Ne.symm e]];exact hi.fresh x hh
theorem ME {t:TypeId} {x:Operand} {c:Nat} {ti:TI} {xa:TV} {obs:List (Option (Option Ob))} {E:Eff} (ht:eG P t ti) (hop:o.op= .load t x) (he:IK c ti xa obs=some E) (hc:All E.conds)
  (hobs:obs=(foot (.take c) 0 (.load t x) [xa]).map h) (fr:Fr B ρ F w) (hi:HI B ρ F w h) (hx:bE ρ F w xa (a.eval x)):Good P B ρ F w h o a E.tv E.hd:=by
 obtain⟨ft,hi⟩:=hi;unfold IK at he;split at he
 ·rename_i b esz i off E' esz' len el;obtain⟨k,base,cap,hk,hv⟩:=hx;cases hb:(Nat.beq esz esz' && Nat.beq ti.size 1 && !ti.agg && Nat.blt off esz)with
  |false=>simp [hb]at he
  |true=>
   simp only [hb,bt]at he;simp only [cd,c_]at hb;have e1:=bv hb.1.1.1;have e2:=bv hb.1.1.2;have e3:ti.agg=false:=hb.1.2;have hlo:off<esz:=cj (n:=off+1) hb.2;subst e1;split at he
   ·rename_i E1 esz1 n el1 hel;cases he;obtain⟨hlt,_⟩:=hc;simp [foot]at hobs;obtain⟨hob,hcn⟩:=hobs;rcases hi.obj b _ hob.symm with⟨_,h0⟩|⟨k',base',cap',vs,rb,h1,h0,h2,h3,h4,h5,h6,h7,h8⟩
    ·omega
    ·rw [hk]at h1;cases h1;obtain⟨u,hu,hr⟩:=h6 i hlt off hlo;have hr:fC F w (ft b) (rb i off) (el i off) u:=hr;rw [hel]at hr;have hload:(loadVar t ⟨k,base+(i*esz+off),none⟩).run P w= .ok u w:=by
      have hcell:w.cell? ⟨k,base+(i*esz+off),none⟩=some u:=by rw [bS h2];exact hu
      rw [loadVar,eC,pK ht];simp [e3,hcell]
     have hrun:=wS hop hv hload;have hρc:=hi.fresh c hcn.symm;have hbc:b≠c:=fun e=>by rw [e,<-hcn]at hob;cases hob
     have grn: ∀p,Gr ρ F w (bN ρ c p) F w:=fun p=> ⟨aS hρc,fun _ h=>h,fun _ _=>rfl⟩;have frn: ∀p,Fr B (bN ρ c p) F w:=fun p=>{fr with rho:=fun b' p' e=>aS hρc b' p' (fr.rho b' p' e)};have rest: ∀(p:Pl) (S1:Nat->Prop),(∀q,S1 q↔ft b q/\rb i off≠some q)->dK (bN ρ c p) F w (.own c false n) u->ig (bN ρ c p) F w S1 b (.rows E' esz len el (some (i,off, .own c false n))):=by
      intro p S1 hS1 hcu;refine .inr ⟨k,base,cap,vs,rb,aS hρc _ _ hk,(hS1 k).2 ⟨h0,h8 i off⟩,h2,h3,h4,h5,fun i' hi' j' hj'=> ?_,h7,h8⟩;obtain⟨u',hu',hr'⟩:=h6 i' hi' j' hj';refine⟨u',hu', ?_⟩;unfold wC;simp only;split
      ·rename_i e;obtain⟨rfl,rfl⟩:=e;rw [hu]at hu';cases hu';exact hcu
      ·rename_i hne;have hr':fC F w (ft b) (rb i' j') (el i' j') u':=hr';cases hel':el i' j' with
       |d x=>rw [hel']at hr';exact hr'
       |row E2 esz2 n2 el2=>
        rw [hel']at hr';rcases hr' with hr'|⟨q,bq,cq,q1,q2,q3,q4⟩;·exact .inl hr'
        ·exact .inr ⟨q,bq,cq,q1,(hS1 q).2 ⟨q2,fun e=>hne (h7 _ _ _ _ _ q1 e)⟩,q3,q4⟩
     rcases hr with⟨n0,hu0⟩|⟨q,bq,cq,q1,q2,q3,q4⟩
     ·have hcu:dK (bN ρ c .nil) F w (.own c false n) u:= .inr ⟨rfl,ay _ _,n0,hu0⟩;exact bI (grn .nil) (frn .nil) ⟨_,mg.split (S1:=fun q=>ft b q/\rb i off≠some q) (S2:=fun _=>False) fr hi hob.symm hcn.symm (fun _ h=>h.1) (fun _ h=>h.elim) (fun _ _ h=>h) (rest _ _ (fun _=>Iff.rfl) hcu) (.inl ⟨ay _ _,n0⟩)⟩ hrun hcu
     ·have hcu:dK (bN ρ c (.blk q bq cq)) F w (.own c false n) u:= .inl ⟨q,bq,cq,ay _ _,q3⟩;exact bI (grn _) (frn _) ⟨_,mg.split (S1:=fun q'=>ft b q'/\rb i off≠some q') (S2:=fun q'=>q'=q) fr hi hob.symm hcn.symm (fun _ h=>h.1) (fun q' h=>h ▸ q2) (fun q' h1 h2=>h1.2 (by rw [q1,h2])) (rest _ _ (fun _=>Iff.rfl) hcu) (.inr ⟨q,bq,cq,ay _ _,rfl,q4⟩)⟩ hrun hcu
   ·cases he
 ·cases he
theorem mg.merge {ft:Nat->Nat->Prop} {S:Nat->Prop} (fr:Fr B ρ F w) (hi:mg B ρ F w h ft) {b c k:Nat} {ob oc nb:Ob} (hb:h b=some (some ob)) (hc:h c=some (some oc)) (hbc:b≠c) (pt:Put w w' k) (hk:ft b k)
  (hS: ∀k,S k->ft b k\/ft c k) (r:ig ρ F w' S b nb):mg B ρ F w' (upd h [(b,some nb),(c,none)]) (qa ft b S):=by
 have hkk:=(hi.blk b ob k hb hk).2.1;have hu: ∀x,upd h [(b,some nb),(c,none)] x=if b=x then some (some nb)else if c=x then some none else h x:=by
  intro x;exact wT _ _ _ _ _
 refine hi.step (pt.gr hkk) fr (by rw [pt.size];omega) (fun x=>x=b\/x=c) (fun x ob' e hh=> ?_) (fun x ob' e hh=> ?_) (fun x ob' k e hh hf=> ?_) (fun b1 b2 o1 o2 k e1 e2 h1 h2 _ _=> ?_) (fun k hk=> .inl hk) fun x hh=> ?_
 ·rw [hu,ce (fun e'=>e (.inl e'.symm)),ce (fun e'=>e (.inr e'.symm))]at hh;exact⟨hh,fun q hq=>pt.old q fun e'=>e (.inl (hi.dis x b ob' ob q hh hb hq (e' ▸ hk))),fun k=>by rw [eY (fun e'=>e (.inl e'))]⟩
 ·rcases e with rfl|rfl
  ·rw [hu,ci rfl]at hh;cases hh;rw [bB];exact r
  ·rw [hu,ce hbc,ci rfl]at hh;cases hh
 ·rcases e with rfl|rfl
  ·rw [bB]at hf;rcases hS k hf with q|q
   ·exact .inl ⟨x,ob, .inl rfl,hb,q⟩
   ·exact .inl ⟨c,oc, .inr rfl,hc,q⟩
  ·rw [hu,ce hbc,ci rfl]at hh;cases hh
 ·have key: ∀x ob',(x=b\/x=c)->upd h [(b,some nb),(c,none)] x=some (some ob')->x=b:=fun x ob' e hh=>by
   rcases e with e|e;·exact e
   ·subst e;rw [hu,ce hbc,ci rfl]at hh;cases hh
  rw [key b1 o1 e1 h1,key b2 o2 e2 h2]
 ·rw [hu]at hh;split at hh
  ·cases hh
  ·split at hh
   ·cases hh
   ·exact hi.fresh x hh
theorem OC {t:TypeId} {x y:Operand} {ti:TI} {xa xv:TV} {len':Nat} {el':Nat->Nat->EV} {obs:List (Option (Option Ob))} {E:Eff} (ht:eG P t ti) (hop:o.op= .store t x y) (he:LH el' ti xa xv obs=some E) (hc:All E.conds)
  (hobs:obs=(foot (.rows len' el') 0 (.store t x y) [xa,xv]).map h) (fr:Fr B ρ F w) (hi:HI B ρ F w h) (hx:bE ρ F w xa (a.eval x)) (hy:bE ρ F w xv (a.eval y)):Good P B ρ F w h o a E.tv E.hd:=by
 classical
 obtain⟨ft,hi⟩:=hi;unfold LH at he;split at he
 ·rename_i b esz i off c nn n E' esz' len el ov E1 esz1 n1 el1;cases hb:(Nat.beq esz esz' && Nat.beq ti.size 1 && Nat.blt off esz && !(Nat.beq b c))with
  |false=>simp [hb]at he
  |true=>
   simp only [hb,bt]at he;simp only [cd,c_]at hb;have e1:=bv hb.1.1.1;have e2:=bv hb.1.1.2;have hlo:off<esz:=cj (n:=off+1) hb.1.2;have hbc:b≠c:=Nat.ne_of_beq_eq_false hb.2;subst e1;cases he;obtain⟨hlt,hn,heq,hov,_⟩:=hc;subst hn;simp [foot]at hobs;obtain⟨hob,hoc⟩:=hobs;obtain⟨k,base,cap,hk,hv⟩:=hx;rcases hi.obj b _ hob.symm with⟨_,h0⟩|⟨k',base',cap',vs,rb,h1,h0,h2,h3,h4,h5,h6,h7,h8⟩;·omega
   ·rw [hk]at h1;cases h1;have hys:(a.eval y).oneCell'=true:=dK.oneCell hy;have hyl:(a.eval y).cells.toList=[a.eval y]:=by rw [xC hys]
    have hin:i*esz+off+1<=cap*esz:=row_in hlt h4 (by omega);have hrun:=yT ht hop hv h2 hyl (by rw [e2];rfl) (by rw [e2];omega) (fun v hv=>by simp at hv;rw [hv];exact hys);rw [e2]at hrun;have hblk:=hi.blk b _ k hob.symm h0;have pt:=Put.setRow w k (vs.take (base+(i*esz+off))++[a.eval y]++vs.drop (base+(i*esz+off)+1)).toArray;have gr:=pt.gr (ρ:=ρ) hblk.2.1;have hcoth: ∀q,ft c q->q≠k:=fun q hq e=>hbc (hi.dis b c _ _ k hob.symm hoc.symm h0 (e ▸ hq));have hrow:(n=0/\a.eval y= .slice none 0 0)\/ ∃q bq cq,ft c q/\a.eval y= .slice (some ⟨q,bq,none⟩) n cq/\oP F w q bq cq E1 esz1 n el1:=by
     rcases hy with⟨q,bq,cq,hq,hv'⟩|⟨_,hq,h0',hv'⟩
     ·rcases hi.obj c _ hoc.symm with⟨g0,_⟩|⟨q',bq',cq',g0,g00,g1⟩
      ·rw [hq]at g0;cases g0
      ·rw [hq]at g0;cases g0;exact .inr ⟨q,bq,cq,g00,hv',g1⟩
     ·exact .inl ⟨h0',hv'⟩
    obtain⟨nq,hnq⟩: ∃nq:Option Nat,(nq=none/\n=0/\a.eval y= .slice none 0 0)\/ ∃q bq cq,nq=some q/\ft c q/\a.eval y= .slice (some ⟨q,bq,none⟩) n cq/\oP F w q bq cq E1 esz1 n el1:=by
     rcases hrow with⟨x1,x2⟩|⟨q,bq,cq,x1,x2,x3⟩;·exact⟨none, .inl ⟨rfl,x1,x2⟩⟩
     ·exact⟨some q, .inr ⟨q,bq,cq,rfl,x1,x2,x3⟩⟩
    have nqc: ∀q,nq=some q->ft c q:=fun q e=>by
     rcases hnq with⟨e',_⟩|⟨q',_,_,e',hf,_⟩;·rw [e']at e;cases e
     ·rw [e']at e;cases e;exact hf
    obtain⟨rb',hrb⟩: ∃rb':Nat->Nat->Option Nat,∀i' j',rb' i' j'=if i'=i/\j'=off then nq else(match rb i' j' with|some q=>if ft b q then some q else none|none=>none):=⟨_,fun _ _=>rfl⟩
    have hrb0: ∀i' j' q, ¬ (i'=i/\j'=off)->(rb' i' j'=some q↔rb i' j'=some q/\ft b q):=fun i' j' q hne=>by
     rw [hrb,ce hne];cases rb i' j' with
     |none=>simp
     |some q'=>
      simp only [Option.some.injEq];split
      ·rename_i hf;constructor
       ·rintro e;cases e;exact⟨rfl,hf⟩
       ·rintro ⟨e,_⟩;rw [e]
      ·rename_i hf;constructor
       ·intro e;cases e
       ·rintro ⟨e,hf'⟩;subst e;exact absurd hf' hf
    refine oF gr (pt.fr fr hblk.2.2) ⟨_,mg.merge (S:=fun q=>ft b q\/ft c q) fr hi hob.symm hoc.symm hbc pt h0 (fun _ h=>h) ?_⟩ hrun;refine .inr ⟨k,base,cap,_,rb',hk, .inl h0,setRow_heap w k _ _ E' (0,0) h2, ?_,h4,h5,fun i' hi' j hj=> ?_,fun i1 j1 i2 j2 q q1 q2=> ?_,fun i' j' e=> ?_⟩;·simp only [b_,d7,d8,cX,List.length_nil];omega
    ·have hlook:=dh vs [a.eval y] (base+(i*esz+off)) (by simp;omega) (base+(i'*esz+j));simp only [cX,List.length_nil,cC]at hlook;rw [hlook];by_cases e:i'=i/\j=off
     ·obtain⟨rfl,rfl⟩:=e;refine⟨a.eval y,by rw [ce (by omega),ci (by omega)];simp, ?_⟩;show fC F _ _ _ (el' i' j) _;rw [<-heq i' hi' j hj,Nw,ci ⟨rfl,rfl⟩,hrb,ci ⟨rfl,rfl⟩];rcases hnq with⟨_,x1,x2⟩|⟨q,bq,cq,e,hf,x2,x3⟩
      ·exact .inl ⟨x1,x2⟩
      ·exact .inr ⟨q,bq,cq,e, .inr hf,x2,x3.keep gr (pt.old q (hcoth q hf))⟩
     ·obtain⟨u,hu,hr⟩:=h6 i' hi' j hj;have hne:i'*esz+j≠i*esz+off:=fun e'=>by
       have:=idx_eq (n:=1) hj (show i*esz+off<=i'*esz+j by omega) (by omega) (by omega);exact e ⟨this.1,by omega⟩
      refine⟨u, ?_, ?_⟩
      ·by_cases hl:i'*esz+j<i*esz+off
       ·rw [ci (by omega)];exact hu
       ·rw [ce (by omega),ce (by omega)];exact hu
      ·show fC F _ _ _ (el' i' j) _;rw [<-heq i' hi' j hj,Nw,ce e];have hr':fC F w (ft b) (rb i' j) (el i' j) u:=by
        unfold wC at hr;split at hr;·exact hr
        ·rename_i i0 j0 c0;obtain⟨rfl,rfl⟩:=hov i0 j0 c0 rfl;rw [ce e]at hr;exact hr
       cases hel:el i' j with
       |d x=>rw [hel]at hr';exact bG.gr gr.fz gr.mem hr'
       |row E2 esz2 n2 el2=>
        rw [hel]at hr';rcases hr' with hr'|⟨q,bq,cq,q1,q2,q3,q4⟩;·exact .inl hr'
        ·exact .inr ⟨q,bq,cq,(hrb0 i' j q e).2 ⟨q1,q2⟩, .inl q2,q3,q4.keep gr (pt.old q fun e'=>h8 i' j (by rw [q1,e']))⟩
    ·by_cases c1:i1=i/\j1=off<;>by_cases c2:i2=i/\j2=off
     ·exact⟨c1.1.trans c2.1.symm,c1.2.trans c2.2.symm⟩
     ·rw [hrb,ci c1]at q1;have:=(hrb0 _ _ _ c2).1 q2;exact absurd (hi.dis b c _ _ q hob.symm hoc.symm this.2 (nqc q q1)) hbc
     ·rw [hrb,ci c2]at q2;have:=(hrb0 _ _ _ c1).1 q1;exact absurd (hi.dis b c _ _ q hob.symm hoc.symm this.2 (nqc q q2)) hbc
     ·exact h7 _ _ _ _ _ ((hrb0 _ _ _ c1).1 q1).1 ((hrb0 _ _ _ c2).1 q2).1
    ·by_cases c1:i'=i/\j'=off
     ·rw [hrb,ci c1]at e;exact hcoth k (nqc k e) rfl
     ·exact h8 _ _ ((hrb0 _ _ _ c1).1 e).1
 ·cases he
end
section
variable {P:Program} {B:Base} {ρ ρ':Nat->Option Pl} {F F':Nat->Prop} {w w':World} {h:Hp} {o:Oper} {a:Act} {T:List (Nat × TI)}
def E9 (ρ:Nat->Option Pl) (F:Nat->Prop) (w:World):Option TV->Option Value->Prop
 |some tv,some v=>bE ρ F w tv v
 |none,none=>True
 |_,_=>False
def qP:Sk->Nat->Nat
 | .lo l,_=>l.toNat
 | .bo l _,_=>l.toNat
 |_,_=>0
def Di:Sk->Nat->Nat
 | .hi h,_=>h.toNat
 | .bo _ h,_=>h.toNat
 |_,len=>len
def RH:Sk->Nat->Prop
 | .lo l,len=>0<=l/\l<=len
 | .hi h,len=>0<=h/\h<=len
 | .all,_=>True
 | .bo l h,len=>0<=l/\l<=h/\h<=len
def YR (bd:Sk) (lo hi:Option Value):Prop:=
 match bd with
 | .lo l=>(∃k,lo=some (.int k l))/\hi=none
 | .hi h=>lo=none/\ ∃k,hi=some (.int k h)
 | .all=>lo=none/\hi=none
 | .bo l h=>(∃k,lo=some (.int k l))/\ ∃k,hi=some (.int k h)
theorem pQ {bd:Sk} {lo hi:Option Value} {is:Bool} {len cap:Nat} (hv:YR bd lo hi) (hb:RH bd len) (hlc:len<=cap):(Instr.sliceBounds is len cap lo hi none).run P w= .ok (qP bd len,Di bd len,cap) w/\qP bd len<=Di bd len/\Di bd len<=len:=by
 cases bd with
 |lo l=>
  obtain⟨⟨k,rfl⟩,rfl⟩:=hv;obtain⟨h1,h2⟩:=hb;refine⟨?_,by simp [qP,Di];omega,by simp [Di]⟩;simp [Instr.sliceBounds,Instr.sliceBound,asIntOf,qP,Di,h1,h2]
 |hi l=>
  obtain⟨rfl,⟨k,rfl⟩⟩:=hv;obtain⟨h1,h2⟩:=hb;have h3:l<=(cap:Int):=by omega
  refine⟨?_,by simp [qP],by simp [Di];omega⟩;simp [Instr.sliceBounds,Instr.sliceBound,asIntOf,qP,Di,h1,h3]
 |all=>
  obtain⟨rfl,rfl⟩:=hv;exact⟨by simp [Instr.sliceBounds,qP,Di],by simp [qP],by simp [Di]⟩
 |bo l m=>
  obtain⟨⟨k,rfl⟩,⟨k',rfl⟩⟩:=hv;obtain⟨h1,h2,h4⟩:=hb;have h3:m<=(cap:Int):=by omega
  have h5:0<=m:=by omega
  have h6:l.toNat<=m.toNat:=by omega
  have h7:l<=(m.toNat:Int):=by omega
  refine⟨?_,by simp [qP,Di];omega,by simp [Di];omega⟩;simp [Instr.sliceBounds,Instr.sliceBound,asIntOf,qP,Di,h1,h3,h5];intro hq;omega
theorem pU {t e:TypeId} {x:Operand} {lo hi:Option Operand} {ti te:TI} {bd:Sk} (ht:eG P t ti) (hd:ti.d= .slice e) (hte:eG P e te) (hop:o.op= .slice t x lo hi none) {ad:Option Addr} {len cap:Nat} (hx:a.eval x= .slice ad len cap)
  (hv:YR bd (lo.map a.eval) (hi.map a.eval)) (hb:RH bd len) (hlc:len<=cap):
  (execOp a.eval o).run P w= .ok (.value (.slice (if cap=qP bd len then ad else ad.map (·.add (qP bd len*te.size))) (Di bd len - qP bd len) (cap - qP bd len))) w:=by
 have hu:=aL (w:=w) ht;rw [hd]at hu;have hs:=dw (w:=w) hte;obtain⟨hbd,_⟩:=pQ (P:=P) (w:=w) (is:=true) hv hb hlc;simp [execOp,hop,Instr.sliceAt,Instr.slice,hu,hs,hx,hbd]
theorem vN {t e:TypeId} {n:Nat} {x:Operand} {ti te:TI} (ht:eG P t ti) (hd:ti.d= .array n e) (hte:eG P e te) (hop:o.op= .slice t x none none none) {k off:Nat} (hx:a.eval x= .pointer (some ⟨k,off,none⟩)):
  (execOp a.eval o).run P w= .ok (.value (.slice (some ⟨k,off,none⟩) n n)) w:=by
 have hu:=aL (w:=w) ht;rw [hd]at hu;have hs:=dw (w:=w) hte;simp [execOp,hop,Instr.sliceAt,hu,hs,hx,Instr.sureAddr,Instr.sliceBounds,dZ]
theorem GJ {lo:Option Operand} {xs xs':List TV} {l:Option TV} {vs:List Value} (h:Ht lo xs=some (l,xs')) (hx:dG ρ F w xs (lo.toArray.toList.map a.eval++vs)):
  dG ρ F w xs' vs/\E9 ρ F w l (lo.map a.eval):=by
 cases lo with
 |none=>simp [Ht]at h;obtain⟨rfl,rfl⟩:=h;exact⟨by simpa using hx,trivial⟩
 |some y=>
  cases xs with
  |nil=>simp [Ht]at h
  |cons x xs=>
   simp [Ht]at h;obtain⟨rfl,rfl⟩:=h;simp at hx;exact⟨hx.2,hx.1⟩
theorem UR {lo hi:Option TV} {vl vh:Option Value} {bd:Sk} (h:Q0 lo hi=some bd) (hl:E9 ρ F w lo vl)
  (hh:E9 ρ F w hi vh):YR bd vl vh:=by
 unfold Q0 at h;split at h
 ·rename_i k l;cases h;cases vl with
  |none=>exact hl.elim
  |some v=>
   cases vh with
   |some _=>exact hh.elim
   |none=>have hl:v= .int k l:=hl;exact⟨⟨k,by rw [hl]⟩,rfl⟩
 ·rename_i k l;cases h;cases vh with
  |none=>exact hh.elim
  |some v=>
   cases vl with
   |some _=>exact hl.elim
   |none=>have hh:v= .int k l:=hh;exact⟨rfl,k,by rw [hh]⟩
 ·cases h;cases vl with
  |some _=>exact hl.elim
  |none=>cases vh with
   |some _=>exact hh.elim
   |none=>exact⟨rfl,rfl⟩
 ·rename_i k l k' m;cases h;cases vl with
  |none=>exact hl.elim
  |some v=>
   cases vh with
   |none=>exact hh.elim
   |some u=>
    have hl:v= .int k l:=hl;have hh:u= .int k' m:=hh;exact⟨⟨k,by rw [hl]⟩,k',by rw [hh]⟩
 ·cases h
theorem mg.Zc {ft:Nat->Nat->Prop} (fr:Fr B ρ F w) (hi:mg B ρ F w h ft) {b k:Nat} {cap:Nat} {E:TypeId} {ds:List DV} (hb:h b=some (some (.cells E (ds.map .d)))) (hk:ρ b=some (.blk k 0 cap)) (hf:ft b k):
  mg B ρ (fun q=>F q\/q=k) w (upd h [(b,some (.fcells E ds))]) (qa ft b fun _=>False)/\Fr B ρ (fun q=>F q\/q=k) w:=by
 obtain⟨g1,g2,g3⟩:=hi.blk b _ k hb hf;have g:Gr ρ F w ρ (fun q=>F q\/q=k) w:=⟨fun _ _ h=>h,fun _ h=> .inl h,fun _ _=>rfl⟩;have hu: ∀b',upd h [(b,some (.fcells E ds))] b'=if b=b' then some (some (.fcells E ds))else h b':=fun b'=>iZ _ _ _
 refine⟨hi.step g fr (cx _) (fun x=>x=b) (fun x ob e hh=> ?_) (fun x ob e hh=> ?_) (fun x ob q e hh hq=> ?_) (fun _ _ _ _ _ e1 e2 _ _ _ _=>e1.trans e2.symm) (fun q hq=> ?_) (fun x hh=> ?_),{fr with fz:=fun q hq=> ?_,bf:=fun q hq=> .inl (fr.bf q hq)}⟩;·rw [hu,ce (Ne.symm e)]at hh;exact⟨hh,fun _ _=>rfl,fun k=>by rw [eY e]⟩
 ·subst e;rw [hu,ci rfl]at hh;cases hh;obtain⟨k',cap',vs,h1,h0,h2,h3⟩:=hi.obj x _ hb;rw [hk]at h1;cases h1;refine⟨k,0,cap,hk,fun j y hy=> ⟨.inr rfl, ?_⟩⟩;obtain⟨u,hu',hr⟩:=h3.get (j:=j) (c:= .d y) (by rw [dj,hy];rfl);exact⟨u,by rw [cC,bS h2];exact hu',bG.gr g.fz g.mem hr⟩
 ·subst e;rw [bB]at hq;exact hq.elim
 ·rcases hq with hq|hq
  ·exact .inl hq
  ·subst hq;exact .inr (.inl ⟨⟨b,_,rfl,hb,hf⟩,fun x ob e hh hq=>by subst e;rw [bB]at hq;exact hq⟩)
 ·rw [hu]at hh;split at hh
  ·cases hh
  ·exact hi.fresh x hh
 ·rcases hq with hq|hq
  ·exact fr.fz q hq
  ·subst hq;exact⟨g1,by rcases g3 with g3|g3;exact .inr (.inl g3);exact .inr (.inr g3)⟩
theorem BF {t e:TypeId} {n:Nat} {x:Operand} {lo hi:Option Operand} {ti te:TI} (ht:eG P t ti) (hd:ti.d= .array n e) (hte:eG P e te) (hop:o.op= .slice t x lo hi none) {k off:Nat} (hx:a.eval x= .pointer (some ⟨k,off,none⟩)) {l:Int}
  (hv:YR (.lo l) (lo.map a.eval) (hi.map a.eval)) (hb:0<=l/\l<n):(execOp a.eval o).run P w= .ok (.value (.slice (some ⟨k,off+l.toNat*te.size,none⟩) (n - l.toNat) (n - l.toNat))) w:=by
 have hu:=aL (w:=w) ht;rw [hd]at hu;have hs:=dw (w:=w) hte;obtain⟨hbd,_⟩:=pQ (P:=P) (w:=w) (is:=false) (len:=n) (cap:=n) hv ⟨hb.1,by omega⟩ (cx n);have hne:n≠l.toNat:=by omega
 simp [execOp,hop,Instr.sliceAt,hu,hs,hx,Instr.sureAddr,hbd,dZ,qP,Di,hne]
theorem mg.WO {ft:Nat->Nat->Prop} (fr:Fr B ρ F w) (hi:mg B ρ F w h ft) {b fresh l esz:Nat} (hfr:h fresh=none) {p:Pl} (hp:ig (bN ρ fresh p) F w (fun _=>False) fresh (.suf b l esz)):HI B (bN ρ fresh p) F w (upd h [(fresh,some (.suf b l esz))]):=by
 have hρf:=hi.fresh fresh hfr;have g:Gr ρ F w (bN ρ fresh p) F w:=⟨aS hρf,fun _ h=>h,fun _ _=>rfl⟩;have hu: ∀x,upd h [(fresh,some (.suf b l esz))] x=if x=fresh then some (some (.suf b l esz))else h x:=fun x=>by
  show(match get [(fresh,some (.suf b l esz))] x with|some o=>some o|none=>h x)=_;rw [aC];by_cases e:fresh=x;·rw [ci e,ci e.symm]
  ·rw [ce e,ce (Ne.symm e)];rfl
 refine⟨fun x k=>x≠fresh/\ft x k,hi.step g fr (cx _) (fun x=>x=fresh) (fun x ob hx hh=> ?_) (fun x ob hx hh=> ?_) (fun x ob k hx hh hf=>absurd hx hf.1) (fun x x' ob ob' k hx _ _ _ hf _=>absurd hx hf.1) (fun k hk=> .inl hk) fun x hx=> ?_⟩
 ·rw [hu,ce hx]at hh;exact⟨hh,fun _ _=>rfl,fun k=> ⟨fun q=>q.2,fun q=> ⟨hx,q⟩⟩⟩
 ·subst hx;rw [hu,ci rfl]at hh;cases hh;exact hp.keep (.refl _ _ _) (fun _ q=>q.elim) (fun _ q=>q.elim)
 ·rw [hu]at hx;split at hx
  ·cases hx
  ·rename_i hxf;unfold bN;rw [ce hxf];exact hi.fresh x hx
theorem mg.ZN {ft:Nat->Nat->Prop} (fr:Fr B ρ F w) (hi:mg B ρ F w h ft) {fresh:Nat} {nob:Ob} (hfr:h fresh=none) {p:Pl} (hp:ig (bN ρ fresh p) F w (fun _=>False) fresh nob):HI B (bN ρ fresh p) F w (upd h [(fresh,some nob)]):=by
 have hρf:=hi.fresh fresh hfr;have g:Gr ρ F w (bN ρ fresh p) F w:=⟨aS hρf,fun _ h=>h,fun _ _=>rfl⟩;have hu: ∀x,upd h [(fresh,some nob)] x=if x=fresh then some (some nob)else h x:=fun x=>by
  show(match get [(fresh,some nob)] x with|some o=>some o|none=>h x)=_;rw [aC];by_cases e:fresh=x;·rw [ci e,ci e.symm]
  ·rw [ce e,ce (Ne.symm e)];rfl
 refine⟨fun x k=>x≠fresh/\ft x k,hi.step g fr (cx _) (fun x=>x=fresh) (fun x ob hx hh=> ?_) (fun x ob hx hh=> ?_) (fun x ob k hx hh hf=>absurd hx hf.1) (fun x x' ob ob' k hx _ _ _ hf _=>absurd hx hf.1) (fun k hk=> .inl hk) fun x hx=> ?_⟩
 ·rw [hu,ce hx]at hh;exact⟨hh,fun _ _=>rfl,fun k=> ⟨fun q=>q.2,fun q=> ⟨hx,q⟩⟩⟩
 ·subst hx;rw [hu,ci rfl]at hh;cases hh;exact hp.keep (.refl _ _ _) (fun _ q=>q.elim) (fun _ q=>q.elim)
 ·rw [hu]at hx;split at hx
  ·cases hx
  ·rename_i hxf;unfold bN;rw [ce hxf];exact hi.fresh x hx
theorem Jo {t e:TypeId} {x lo hi mx:Operand} {ti te:TI} (ht:eG P t ti) (hd:ti.d= .slice e) (hte:eG P e te) (hop:o.op= .slice t x (some lo) (some hi) (some mx)) {ad:Option Addr} {len cap:Nat} (hx:a.eval x= .slice ad len cap)
  {kl kh km:IntKind} {l m:Int} (hl:a.eval lo= .int kl l) (hh:a.eval hi= .int kh m) (hm:a.eval mx= .int km m) (hb:0<=l/\l<m/\m<=len) (hlc:len<=cap):
  (execOp a.eval o).run P w= .ok (.value (.slice (ad.map (·.add (l.toNat*te.size))) (m.toNat - l.toNat) (m.toNat - l.toNat))) w:=by
 have hu:=aL (w:=w) ht;rw [hd]at hu;have hs:=dw (w:=w) hte;obtain⟨m,rfl⟩:=Int.eq_ofNat_of_zero_le (show 0<=m by omega);obtain⟨l,rfl⟩:=Int.eq_ofNat_of_zero_le hb.1;have h2:m<=cap:=by omega
 have h4:l<=m:=by omega
 have h5: ¬ m=l:=by omega
 have h6:(m:Int)<=(cap:Int):=by omega
 have h7:(l:Int)<=(m:Int):=by omega
 simp [execOp,hop,Instr.sliceAt,Instr.slice,hu,hs,hx,hl,hh,hm,Instr.sliceBounds,Instr.sliceBound,asIntOf,h2,h4,h5,h6,h7]
theorem I7 (hT:kg P T) {t:TypeId} {x lo hi' mx:Operand} {ti:TI} {xa xl xh xm:TV} {fresh:Nat} {an:iJ} {obs:List (Option (Option Ob))} {E:Eff} (ht:eG P t ti) (hop:o.op= .slice t x (some lo) (some hi') (some mx))
  (he:BQ T fresh an ti.d xa xl xh xm obs=some E) (hc:All E.conds) (hobs:obs=(foot an fresh o.op [xa,xl,xh,xm]).map h) (fr:Fr B ρ F w) (hi:HI B ρ F w h) (hx:bE ρ F w xa (a.eval x))
  (hl:bE ρ F w xl (a.eval lo)) (hh:bE ρ F w xh (a.eval hi')) (hm:bE ρ F w xm (a.eval mx)):Good P B ρ F w h o a E.tv E.hd:=by
 unfold BQ at he;split at he
 ·rename_i e nn esz len el kl l kh m0 km m len' el' hd;rw [hop]at hobs;simp [foot]at hobs;have hfr:h fresh=none:=hobs.symm;split at he
  ·rename_i te hte;have hte:=hT.get hte;cases hb:Nat.beq esz te.size with
   |false=>simp [hb]at he
   |true=>
    simp only [hb,bt]at he;have hes:=bv hb;cases he;obtain⟨c1,c2,c3,c4,_⟩:=hc;subst c2 c3;have hl:a.eval lo= .int kl l:=hl;have hh:a.eval hi'= .int kh m0:=hh;have hm:a.eval mx= .int km m0:=hm;obtain⟨ad,cap,hv,n1,n2,n3,n4,n5⟩:=hx;have hrun:=Jo (w:=w) ht hd hte hop hv hl hh hm c1 n4;cases ad with
    |none=>obtain⟨r1,_⟩:=n3 rfl;omega
    |some ad=>
     obtain⟨s1,s2⟩:=n5 ad rfl;have hsp:=s1 (by omega);obtain⟨ft,hi⟩:=hi;have hρf:=hi.fresh fresh hfr;have g:Gr ρ F w (bN ρ fresh (.blk ad.block (ad.off+l.toNat*te.size) (m0.toNat - l.toNat))) F w:=⟨aS hρf,fun _ h=>h,fun _ _=>rfl⟩;have hrun':(execOp a.eval o).run P w= .ok (.value (.slice (some ⟨ad.block,ad.off+l.toNat*te.size,none⟩) (m0.toNat - l.toNat) (m0.toNat - l.toNat))) w:=by
      rw [hrun,Option.map_some,mV hsp]
     refine bI g {fr with rho:=fun b' p' e=>aS hρf b' p' (fr.rho b' p' e)} (mg.ZN fr hi hfr ⟨ad.block,_,_,ay _ _,⟨cx _,fun _=>rfl⟩,fun i hi' j hj=> ?_⟩) hrun' (.inl ⟨_,_,_,ay _ _,rfl⟩);obtain⟨hf,u,hu,hru⟩:=s2 (i+l.toNat) (by omega) j hj;refine⟨hf,u, ?_,by rw [<-c4 i hi' j hj];exact hru⟩;rw [<-hes,show ad.off+l.toNat*esz+(i*esz+j)=ad.off+((i+l.toNat)*esz+j) by rw [ee];omega];exact hu
  ·cases he
 ·cases he
theorem yK {t:TypeId} {x:Operand} {lo hi':Option Operand} {s:ByteArray} {bd:Sk} (ht:P.underlying t=some .string) (hop:o.op= .slice t x lo hi' none) (hx:a.eval x= .string s) (hbv:YR bd (lo.map a.eval) (hi'.map a.eval)) (hok:RH bd s.size) (hna:bd≠ .all):
  (execOp a.eval o).run P w= .ok (.value (.string (s.extract (qP bd s.size) (Di bd s.size)))) w:=by
 have key:(Instr.slice t (.string s) (lo.map a.eval) (hi'.map a.eval) none).run P w= .ok (.string (s.extract (qP bd s.size) (Di bd s.size))) w:=by
  cases bd with
  |lo l=>
   obtain⟨⟨k,e1⟩,e2⟩:=hbv;rw [e1,e2];exact run_slice_string_l w t s ht k l hok.1 hok.2
  |hi l=>
   obtain⟨e1,k,e2⟩:=hbv;rw [e1,e2];exact run_slice_string_h w t s ht k l hok.1 hok.2
  |all=>exact absurd rfl hna
  |bo l m=>
   obtain⟨⟨k,e1⟩,k',e2⟩:=hbv;obtain⟨h1,h2,h3⟩:=hok;rw [e1,e2,run_slice_string_if w t s k k' l m ht,ci ⟨by omega,h3⟩,ci ⟨h1,h2⟩];rfl
 simp only [execOp,hop,hx,Option.map_none,run_sliceAt_string w t (.string s) _ _ none ht,eC,key,eA];rfl
theorem KM (hT:kg P T) {t:TypeId} {x:Operand} {lo hi':Option Operand} {ti:TI} {xa:TV} {l hh:Option TV} {fresh:Nat} {an:iJ} {obs:List (Option (Option Ob))} {E:Eff} (ht:eG P t ti) (hop:o.op= .slice t x lo hi' none)
  (he:EA T fresh an ti.d xa l hh obs=some E) (hc:All E.conds) (hobs: ∃r,obs=(foot an fresh o.op (xa::r)).map h) (fr:Fr B ρ F w) (hi:HI B ρ F w h) (hx:bE ρ F w xa (a.eval x))
  (hl:E9 ρ F w l (lo.map a.eval)) (hr:E9 ρ F w hh (hi'.map a.eval)):Good P B ρ F w h o a E.tv E.hd:=by
 obtain⟨rr,hobs⟩:=hobs;unfold EA at he;split at he;·cases he
 ·rename_i bd hbd;have hbv:=UR hbd hl hr;split at he
  ·rename_i e hd;split at he
   ·cases he
   ·rename_i te hte;have hte:=hT.get hte;split at he
    ·-- data
     rename_i nn esz len el;split at he
     ·cases hb:Nat.beq esz te.size with
      |false=>simp [hb]at he
      |true=>
       simp only [hb,bt]at he;have hes:=bv hb;obtain⟨ad,cap,hv,n1,n2,n3,n4,n5⟩:=hx;have hok:RH bd len:=by
        cases bd with
        |lo l=>simp [lM]at he;subst he;exact hc.1
        |hi l=>simp [lM]at he;subst he;exact hc.1
        |all=>trivial
        |bo l m=>simp [lM]at he;subst he;exact hc.1
       have htv:E.hd=[]/\E.tv= .v (.one (.d (.sl nn esz (Di bd len - qP bd len) fun i j=>el (i+qP bd len) j))):=by
        cases bd with
        |lo l=>simp [lM]at he;subst he;exact⟨rfl,rfl⟩
        |hi l=>simp [lM]at he;subst he;exact⟨rfl,rfl⟩
        |all=>simp [lM]at he;subst he;exact⟨rfl,rfl⟩
        |bo l m=>simp [lM]at he;subst he;exact⟨rfl,rfl⟩
       rw [htv.1,htv.2];have hrun:=pU (w:=w) ht hd hte hop hv hbv hok n4;obtain⟨_,q1,q2⟩:=pQ (P:=P) (w:=w) (is:=true) hbv hok n4;refine aH fr hi hrun ⟨_,_,rfl,fun e=> ?_,fun e=> ?_,fun e=> ?_,by omega,fun ad' ha=> ?_⟩
       ·have:=n1 e;split
        ·exact this
        ·cases ad with
         |none=>exact absurd rfl this
         |some _=>simp
       ·rw [n2 e];simp
       ·split at e
        ·obtain⟨r1,r2⟩:=n3 e;omega
        ·cases ad with
         |none=>obtain⟨r1,r2⟩:=n3 rfl;omega
         |some _=>simp at e
       ·split at ha
        ·obtain⟨r1,_⟩:=n5 ad' ha;exact⟨fun hq=>absurd hq (by omega),fun i hi'=>by omega⟩
        ·cases ad with
         |none=>simp at ha
         |some ad0=>
          simp at ha;obtain⟨r1,r2⟩:=n5 ad0 rfl;by_cases hq0:Di bd len - qP bd len=0;·exact⟨fun hq=>absurd hq (by omega),fun i hi'=>by omega⟩
          rw [mV (r1 (by omega))]at ha;subst ha;refine⟨fun _=>rfl,fun i hi' j hj=> ?_⟩;obtain⟨hf,u,hu,hru⟩:=r2 (i+qP bd len) (by omega) j hj;exact⟨hf,u,by simp only;rw [<-hes,show ad0.off+qP bd len*esz+(i*esz+j)=ad0.off+((i+qP bd len)*esz+j) by rw [ee];omega];exact hu,hru⟩
     ·cases he
    ·-- an object
     rename_i b nn n;split at he
     ·rename_i E' esz len el;cases hb:Nat.beq esz te.size with
      |false=>simp [hb]at he
      |true=>
       simp only [hb,bt]at he;have hes:=bv hb;rw [hop]at hobs;simp [foot]at hobs;obtain⟨hob,hfr⟩:=hobs;obtain⟨ft,hi⟩:=hi;have hρf:=hi.fresh fresh hfr.symm;have key:(∀l, ¬ (an= .cells/\bd= .lo l))-> ∃len' el',n=len/\RH bd len/\len'=Di bd len - qP bd len/\aB len' esz (fun i j=>el (i+qP bd len) j) el'/\E=⟨E.conds, .v (.one (.own fresh nn len')),[(fresh,some (.arr E' esz len' el')),(b,none)]⟩:=by
        intro hna;unfold Bp at he;split at he
        ·rename_i len' el';cases bd with
         |lo l=>simp only [Option.some.injEq]at he;subst he;obtain⟨c1,c2,c3,c4,_⟩:=hc;exact⟨len',el',c1,c2,c3,by rw [c3];exact c4,rfl⟩
         |hi l=>simp only [Option.some.injEq]at he;subst he;obtain⟨c1,c2,c3,c4,_⟩:=hc;exact⟨len',el',c1,c2,by simp [qP,Di,c3],by rw [c3];exact c4,rfl⟩
         |all=>cases he
         |bo l m=>cases he
        ·cases bd with
         |lo l=>exact absurd ⟨rfl,rfl⟩ (hna l)
         |hi l=>cases he
         |all=>cases he
         |bo l m=>cases he
        ·cases he
       have grn: ∀p,Gr ρ F w (bN ρ fresh p) F w:=fun p=> ⟨aS hρf,fun _ h=>h,fun _ _=>rfl⟩;have frn: ∀p,Fr B (bN ρ fresh p) F w:=fun p=>{fr with rho:=fun b' p' e=>aS hρf b' p' (fr.rho b' p' e)};by_cases han': ∃l,an= .cells/\bd= .lo l
       ·obtain⟨l,rfl,rfl⟩:=han';simp only [Bp]at he;cases hz1:Nat.ble 1 esz with
        |false=>rw [hz1]at he;cases he
        |true=>
        rw [hz1]at he;simp only [bt,Option.some.injEq]at he;have hz0:esz≠0:=by have:=cj hz1;omega
        subst he;obtain⟨c1,c2,_⟩:=hc;subst c1;have hne:fresh≠b:=fun e=>by rw [e]at hfr;rw [<-hfr]at hob;cases hob
        have hpl: ∀p,HI B (bN ρ fresh p) F w (upd h [(fresh,some (.suf b l.toNat esz))])\/True:=fun _=> .inr trivial;have mk: ∀p,ig (bN ρ fresh p) F w (fun _=>False) fresh (.suf b l.toNat esz)->HI B (bN ρ fresh p) F w (upd h [(fresh,some (.suf b l.toNat esz))]):=fun p hp=>by
         have hu: ∀x,upd h [(fresh,some (.suf b l.toNat esz))] x=if x=fresh then some (some (.suf b l.toNat esz))else h x:=fun x=>by
          show(match get [(fresh,some (.suf b l.toNat esz))] x with|some o=>some o|none=>h x)=_;rw [aC];by_cases e:fresh=x;·rw [ci e,ci e.symm]
          ·rw [ce e,ce (Ne.symm e)];rfl
         refine⟨fun x k=>x≠fresh/\ft x k,hi.step (grn p) fr (cx _) (fun x=>x=fresh) (fun x ob hx hh=> ?_) (fun x ob hx hh=> ?_) (fun x ob k hx hh hf=>absurd hx hf.1) (fun x x' ob ob' k hx _ _ _ hf _=>absurd hx hf.1) (fun k hk=> .inl hk) fun x hx=> ?_⟩
         ·rw [hu,ce hx]at hh;exact⟨hh,fun _ _=>rfl,fun k=> ⟨fun q=>q.2,fun q=> ⟨hx,q⟩⟩⟩
         ·subst hx;rw [hu,ci rfl]at hh;cases hh;exact hp.keep (.refl _ _ _) (fun _ q=>q.elim) (fun _ q=>q.elim)
         ·rw [hu]at hx;split at hx
          ·cases hx
          ·rename_i hxf;unfold bN;rw [ce hxf];exact hi.fresh x hx
        rcases hx with⟨k,base,cap,hk,hv⟩|⟨hnn,hkn,h0,hv⟩
        ·rcases hi.obj b _ hob.symm with⟨g0,_⟩|⟨k',base',cap',g0,g00,vs,g2,g3,g4,g5,g6⟩
         ·rw [hk]at g0;cases g0
         ·rw [hk]at g0;cases g0;have hrun:=pU (w:=w) ht hd hte hop hv hbv c2 g4;have hl:l.toNat<=cap:=by omega
          refine bI (grn (.blk k (if cap=l.toNat then base else base+l.toNat*esz) (cap - l.toNat))) (frn _) (mk _ (.inr ⟨k,base,cap,by unfold bN;rw [ce (Ne.symm hne)];exact hk,hl,by unfold xA;rw [ce hz0];exact ay _ _⟩)) (v:= .slice (some ⟨k,if cap=l.toNat then base else base+l.toNat*esz,none⟩) (n - l.toNat) (cap - l.toNat)) ?_ (.inl ⟨k,_,_,ay _ _,rfl⟩);rw [hrun,show qP (.lo l) n=l.toNat from rfl,show Di (.lo l) n=n from rfl];by_cases hcap:cap=l.toNat;·rw [ci hcap,ci hcap]
          ·rw [ce hcap,ce hcap];simp [dZ,hes]
        ·have hn0:n=0:=h0;subst hn0;have hrun:=pU (w:=w) ht hd hte hop hv hbv c2 (cx 0);have h1:l.toNat=0:=by omega
         refine bI (grn .nil) (frn _) (mk _ (.inl ⟨by unfold bN;rw [ce (Ne.symm hne)];exact hkn,ay _ _,h1⟩)) (v:= .slice none 0 0) ?_ (.inr ⟨hnn,ay _ _,by simp,by simp⟩);rw [hrun,show qP (.lo l) 0=l.toNat from rfl,show Di (.lo l) 0=0 from rfl,h1];simp
       have han: ∀l, ¬ (an= .cells/\bd= .lo l):=fun l hh=>han' ⟨l,hh⟩;obtain⟨len',el',rfl,hok,hle,heq,hE⟩:=key han;rw [hE];simp only;have grn: ∀p,Gr ρ F w (bN ρ fresh p) F w:=fun p=> ⟨aS hρf,fun _ h=>h,fun _ _=>rfl⟩;have frn: ∀p,Fr B (bN ρ fresh p) F w:=fun p=>{fr with rho:=fun b' p' e=>aS hρf b' p' (fr.rho b' p' e)};rcases hx with⟨k,base,cap,hk,hv⟩|⟨hnn,hkn,h0,hv⟩
       ·rcases hi.obj b _ hob.symm with⟨g0,_⟩|⟨k',base',cap',g0,g00,vs,g2,g3,g4,g5,g6⟩
        ·rw [hk]at g0;cases g0
        ·rw [hk]at g0;cases g0;have hrun:=pU (w:=w) ht hd hte hop hv hbv hok g4;obtain⟨_,q1,q2⟩:=pQ (P:=P) (w:=w) (is:=true) hbv hok g4;obtain⟨nb,hnb⟩: ∃nb,nb=if cap=qP bd n then base else base+qP bd n*te.size:=⟨_,rfl⟩
         have hrun':(execOp a.eval o).run P w= .ok (.value (.slice (some ⟨k,nb,none⟩) len' (cap - qP bd n))) w:=by
          rw [hrun,hle,hnb];split;·rfl
          ·simp [dZ]
         have hbl:qP bd n<=cap:=by omega
         refine bI (grn (.blk k nb (cap - qP bd n))) (frn _) ⟨_,mg.move (S:=ft b) fr hi hob.symm hfr.symm (grn _) (cx _) (fun _ _ _ _ _ _=>rfl) (fun _ hf=> .inl hf) (.inr ⟨k,nb,cap - qP bd n,ay _ _,g00, ?_⟩)⟩ hrun' (.inl ⟨k,nb,_,ay _ _,rfl⟩);by_cases hcap:cap=qP bd n
         ·-- nothing is left: the row is cut at its end
          rw [ci hcap]at hnb;exact⟨vs,g2,by rw [hnb,show cap - qP bd n=0 by omega,Nat.zero_mul];omega,by omega,by omega,fun i hi'=>by omega⟩
         ·rw [ce hcap]at hnb;refine⟨vs,g2, ?_,by omega,by omega,fun i hi' j hj=> ?_⟩
          ·rw [hnb,<-hes,ec,<-ee,show qP bd n+(cap - qP bd n)=cap by omega];exact g3
          ·obtain⟨u,hu,hru⟩:=g6 (i+qP bd n) (by omega) j hj;rw [<-heq i hi' j hj];exact⟨u,by rw [hnb,<-hes,show base+qP bd n*esz+(i*esz+j)=base+((i+qP bd n)*esz+j) by rw [ee];omega];exact hu,hru⟩
       ·have hn0:n=0:=h0;subst hn0;have hrun:=pU (w:=w) ht hd hte hop hv hbv hok (cx 0);obtain⟨_,q1,q2⟩:=pQ (P:=P) (w:=w) (is:=true) hbv hok (cx 0);have h1:qP bd 0=0:=by omega
        have h2:Di bd 0=0:=by omega
        rw [h1,h2]at hrun;rw [h1,h2]at hle;subst hle;refine bI (grn .nil) (frn _) ⟨_,mg.move (S:=fun _=>False) fr hi hob.symm hfr.symm (grn _) (cx _) (fun _ _ _ _ _ _=>rfl) (fun _ hf=>hf.elim) (.inl ⟨ay _ _,rfl⟩)⟩ hrun (.inr ⟨hnn,ay _ _,rfl,by simp⟩)
     ·cases he
    ·cases he
  ·rename_i hd;have hu:P.underlying t=some .string:=ht.1.trans (congrArg some hd);split at he
   ·rename_i s;have hs:a.eval x= .string s:=hx;split at he
    ·cases he;obtain⟨c1,_⟩:=hc;exact aH fr hi (yK hu hop hs hbv c1 (by intro e;cases e)) rfl
    ·cases he;obtain⟨c1,_⟩:=hc;exact aH fr hi (yK hu hop hs hbv c1 (by intro e;cases e)) rfl
    ·cases he;obtain⟨c1,_⟩:=hc;exact aH fr hi (yK hu hop hs hbv c1 (by intro e;cases e)) rfl
    ·cases he
   ·cases he
  ·rename_i n e hd;split at he
   ·rename_i te hte;have hte:=hT.get hte;have hlh:lo=none/\hi'=none:=by
     obtain⟨h1,h2⟩:=hbv;exact⟨by simpa using h1,by simpa using h2⟩
    obtain⟨rfl,rfl⟩:=hlh;split at he
    ·rename_i b off;split at he
     ·rename_i E' cs;split at he
      ·rename_i ds hds;cases hb:Nat.ble (off+n*te.size) ds.length with
       |false=>simp [hb]at he
       |true=>
        simp only [hb,bt]at he;have hle:=cj hb;cases he;rw [hop]at hobs;simp [foot]at hobs;have hcs:=gF hds;subst hcs;obtain⟨ft,hi⟩:=hi;obtain⟨k,base,cap,hk,hv⟩:=hx;obtain⟨k',cap',vs,h1,h0,h2,h3⟩:=hi.obj b _ hobs.symm;rw [hk]at h1;cases h1;rw [cC]at hv;have hrun:=vN (w:=w) ht hd hte hop hv;obtain⟨hi2,fr2⟩:=mg.Zc fr hi hobs.symm hk h0;have g:Gr ρ F w ρ (fun q=>F q\/q=k) w:=⟨fun _ _ h=>h,fun _ h=> .inl h,fun _ _=>rfl⟩;refine bI g fr2 ⟨_,hi2⟩ hrun ⟨some ⟨k,off,none⟩,n,rfl,by simp,by simp,by simp,cx _,fun ad ha=> ?_⟩;cases ha;refine⟨fun _=>rfl,fun i hi' j hj=> ⟨.inr rfl, ?_⟩⟩;have hlt:off+(i*te.size+j)<ds.length:=by
         have:=rU (len:=n) hi' hj;omega
        obtain⟨u,hu,hru⟩:=h3.get (j:=off+(i*te.size+j)) (c:= .d (ds.getD (off+(i*te.size+j)) .nilp)) (by rw [dj,cS,cR hlt];rfl);exact⟨u,by rw [bS h2];exact hu,bG.gr g.fz g.mem hru⟩
      ·cases he
     ·cases he
    ·rename_i m c;split at he
     ·cases hb:(Nat.ble (n*te.size) m && Nat.ble 1 (n*te.size))with
      |false=>simp [hb]at he
      |true=>
       simp only [hb,bt]at he;simp only [cd]at hb;have hle:=cj hb.1;cases he;obtain⟨ad,hv,hsp,hcell⟩:=hx;obtain⟨ak,ao,asp⟩:=ad;simp at hsp;subst hsp;have hrun:=vN (w:=w) ht hd hte hop hv;refine aH fr hi hrun ⟨some ⟨ak,ao,none⟩,n,rfl,by simp,by simp,by simp,cx _,fun ad ha=> ?_⟩;cases ha;refine⟨fun _=>rfl,fun i hi' j hj=> ?_⟩;exact hcell (i*te.size+j) (eJ (rU hi' hj) hle)
     ·cases he
    ·cases he
   ·rename_i te l hte;have hte:=hT.get hte;split at he
    ·rename_i b esz i off;split at he
     ·rename_i E' esz' len el;cases hb:(Nat.beq esz 1 && Nat.beq esz' 1 && Nat.beq te.size 1 && Nat.beq i 0 && Nat.beq off 0)with
      |false=>simp [hb]at he
      |true=>
       simp only [hb,bt]at he;simp only [cd]at hb;have e1:=bv hb.1.1.1.1;have e2:=bv hb.1.1.1.2;have e3:=bv hb.1.1.2;have e4:=bv hb.1.2;have e5:=bv hb.2;subst e1;subst e2;subst e4;subst e5;cases he;rw [hop]at hobs;simp [foot]at hobs;obtain⟨hob,hfr⟩:=hobs;obtain⟨ft,hi⟩:=hi;have hρf:=hi.fresh fresh hfr.symm;obtain⟨c1,c2,_⟩:=hc;subst c1;have hne:fresh≠b:=fun e=>by rw [e]at hfr;rw [<-hfr]at hob;cases hob
       obtain⟨k,base,cap,hk,hv⟩:=hx;rcases hi.obj b _ hob.symm with⟨_,g0⟩|⟨k',base',cap',g0,g00,vs,g2,g3,g4,g5,g6⟩;·omega
       ·rw [hk]at g0;cases g0;have hrun:=BF (w:=w) ht hd hte hop hv hbv c2;have grn: ∀p,Gr ρ F w (bN ρ fresh p) F w:=fun p=> ⟨aS hρf,fun _ h=>h,fun _ _=>rfl⟩;have frn: ∀p,Fr B (bN ρ fresh p) F w:=fun p=>{fr with rho:=fun b' p' e=>aS hρf b' p' (fr.rho b' p' e)};have hcap:cap≠l.toNat:=by omega
        refine bI (grn (.blk k (base+l.toNat) (n - l.toNat))) (frn _) (mg.WO fr hi hfr.symm (.inr ⟨k,base,cap,by unfold bN;rw [ce (Ne.symm hne)];exact hk,by omega,by unfold xA;rw [ci rfl];exact⟨_,ay _ _⟩⟩)) hrun (.inl ⟨k,_,_,ay _ _, ?_⟩);rw [e3,show base+(0*1+0)+l.toNat*1=base+l.toNat by omega]
     ·cases he
    ·cases he
   ·cases he
  ·cases he
end
section
variable {P:Program} {T:List (Nat × TI)} {B:Base} {ρ:Nat->Option Pl} {F:Nat->Prop} {w w':World} {h:Hp} {o:Oper} {a:Act}
theorem wR {x y:Operand} {t t':TypeId} (hop:o.op= .call {callee:= .builtin .copy,args:= #[x,y],argTypes:= #[t,t'] }) {v:Value}
  (hr:(Builtin.copy_ #[t,t'] o.type #[a.eval x,a.eval y]).run P w= .ok v w'):(execOp a.eval o).run P w= .ok (.value v) w':=by
 obtain⟨consts,hex⟩:=jh (a:=a) hop;rw [hex];simp [builtin,hr]
theorem IA {P:Program} (w:World) (dT sT ty elem:TypeId) (s g o dLen dCap:Nat) (a:Addr) (sLen sCap:Nat) (cur:Array Value) (t:TypeId) (cs:List Value)
  (hu:P.underlying dT=some (.slice elem)) (hs:(P.info? elem).map (·.size)=some s) (hg:w.heap[g]? =some (.cells cur t (0,0))) (hn:cs.length=Nat.min sLen dLen*s)
  (hsrc: ∀j v,cs[j]? =some v->w.cell? (a.add j)=some v) (hfit:o+cs.length<=cur.size) (h1: ∀v∈cs,v.oneCell'=true):
  (Builtin.copy_ #[dT,sT] ty #[.slice (some ⟨g,o,none⟩) dLen dCap, .slice (some a) sLen sCap]).run P w=
   .ok (goInt (Nat.min sLen dLen)) (w.setRow g (cur.toList.take o++cs++cur.toList.drop (o+cs.length)).toArray):=by
 have hl:=run_loadCells_list (P:=P) w a cs hsrc;have hst:=run_storeCells_at P g o t cs 0 cur w hg (by simpa using hfit) h1;cases hq:P.info? elem with
 |none=>simp [hq]at hs
 |some i=>
  have hi:i.size=s:=by simpa [hq]using hs
  have hl':(loadCells a (Nat.min sLen dLen*s)).run P w= .ok cs.toArray w:=by rw [<-hn];exact hl
  have hst':(storeCells ⟨g,o,none⟩ cs).run P w= .ok () (w.setRow g (cur.toList.take o++cs++cur.toList.drop (o+cs.length)).toArray):=by simpa using hst
  simp [Builtin.copy_,run_underlying hu,Builtin.lenOf,Builtin.firstCells,Go.sizeOf,typeInfo,hq,hi,hl',hst']
theorem DL {P:Program} (w:World) (dT sT ty elem:TypeId) (s:Nat) (d a:Option Addr) (dLen dCap sLen sCap:Nat) (hu:P.underlying dT=some (.slice elem)) (hs:(P.info? elem).map (·.size)=some s) (hn:Nat.min sLen dLen=0):
  (Builtin.copy_ #[dT,sT] ty #[.slice d dLen dCap, .slice a sLen sCap]).run P w= .ok (goInt 0) w:=by
 cases hq:P.info? elem with
 |none=>simp [hq]at hs
 |some i=>
  have hl: ∀(x:Addr),(loadCells x 0).run P w= .ok #[] w:=fun x=>by simpa using run_loadCells_list (P:=P) w x [] (by simp)
  cases d<;>cases a<;>simp [Builtin.copy_,run_underlying hu,Builtin.lenOf,Builtin.firstCells,Go.sizeOf,typeInfo,hq,hn,storeCells,hl]
theorem mg.re {ft:Nat->Nat->Prop} (hi:mg B ρ F w h ft) {b:Nat} {ob nob:Ob} (hb:h b=some (some ob)) (hr:ig ρ F w (ft b) b nob):mg B ρ F w (upd h [(b,some nob)]) ft:=by
 have ex: ∀b' o',upd h [(b,some nob)] b'=some (some o')-> ∃o0,h b'=some (some o0):=fun b' o' hh=>by
  rw [iZ]at hh;split at hh;·rename_i e;subst e;exact⟨_,hb⟩
  ·exact⟨_,hh⟩
 refine⟨fun b' o' hh=> ?_,fun b' o' k hh hf=> ?_,fun b1 b2 o1 o2 k h1 h2 f1 f2=> ?_,fun b' hh=> ?_,hi.gl⟩
 ·rw [iZ]at hh;split at hh
  ·rename_i e;subst e;cases hh;exact hr
  ·exact hi.obj b' o' hh
 ·obtain⟨o0,h0⟩:=ex b' o' hh;exact hi.blk b' o0 k h0 hf
 ·obtain⟨p1,q1⟩:=ex b1 o1 h1;obtain⟨p2,q2⟩:=ex b2 o2 h2;exact hi.dis b1 b2 p1 p2 k q1 q2 f1 f2
 ·rw [iZ]at hh;split at hh
  ·cases hh
  ·exact hi.fresh b' hh
theorem Gb {x y:Operand} {t t' e:TypeId} {te:TI} {b c n m len len2:Nat} {nn qQ:Bool} {E E2:TypeId} {el el2:Nat->Nat->DV} (hu:P.underlying t=some (.slice e)) (hte:eG P e te)
  (hop:o.op= .call {callee:= .builtin .copy,args:= #[x,y],argTypes:= #[t,t'] }) (hb:h b=some (some (.arr E te.size len el))) (hc:h c=some (some (.arr E2 te.size len2 el2))) (hbc:b≠c)
  (e1:n=len) (e2:m=len2) (e3:len2=len) (fr:Fr B ρ F w) (hi:HI B ρ F w h) (hx:dK ρ F w (.own b nn n) (a.eval x)) (hy:dK ρ F w (.own c qQ m) (a.eval y)):
  Good P B ρ F w h o a (.v (.one (.d (.int .i64 (n:Nat))))) [(b,some (.arr E te.size len el2))]:=by
 subst e1;subst e2;subst e3;have hinfo:(P.info? e).map (·.size)=some te.size:=by
  obtain⟨_,i,z,q1,q2,_⟩:=hte;rw [q1];simp [q2]
 obtain⟨ft,hi⟩:=hi;by_cases h0:m=0
 ·subst h0;have hv: ∃d dc d2 dc2,a.eval x= .slice d 0 dc/\a.eval y= .slice d2 0 dc2:=by
   rcases hx with⟨k,base,cap,_,hv⟩|⟨_,_,_,hv⟩<;>rcases hy with⟨k2,base2,cap2,_,hv2⟩|⟨_,_,_,hv2⟩<;>exact⟨_,_,_,_,hv,hv2⟩
  obtain⟨d,dc,d2,dc2,hv,hv2⟩:=hv;have hrun:=wR (a:=a) hop (by rw [hv,hv2];exact DL (P:=P) w t t' o.type e te.size d d2 0 dc 0 dc2 hu hinfo rfl);refine bI (.refl _ _ _) fr ⟨ft,hi.re hb ?_⟩ hrun rfl;rcases hi.obj b _ hb with⟨q1,q2⟩|⟨k,base,cap,g1,g2,vs,g3,g4,g5,g6,g7⟩;·exact .inl ⟨q1,q2⟩
  ·exact .inr ⟨k,base,cap,g1,g2,vs,g3,g4,g5,g6,fun i hi'=>by omega⟩
 ·rcases hi.obj b _ hb with⟨_,q0⟩|⟨k,base,cap,g1,g2,vs,g3,g4,g5,g6,g7⟩
  ·omega
  rcases hi.obj c _ hc with⟨_,q0⟩|⟨k2,base2,cap2,f1,f2,vs2,f3,f4,f5,f6,f7⟩;·omega
  rcases hx with⟨k',base',cap',hk,hv⟩|⟨_,hk,_,_⟩
  rotate_left
  ·rw [g1]at hk;cases hk
  rw [g1]at hk;cases hk;rcases hy with⟨k',base',cap',hk,hv2⟩|⟨_,hk,_,_⟩
  rotate_left
  ·rw [f1]at hk;cases hk
  rw [f1]at hk;cases hk;have hm:m*te.size<=cap*te.size:=cG _ g5;have hm2:m*te.size<=cap2*te.size:=cG _ f5;obtain⟨cs,hcs⟩: ∃cs:List Value,cs=(vs2.drop base2).take (m*te.size):=⟨_,rfl⟩;have hcl:cs.length=m*te.size:=by rw [hcs,d7,d8];omega
  have hcg: ∀j,j<m*te.size->cs[j]? =vs2[base2+j]? :=fun j hj=>by
   rw [hcs,List.getElem?_take_of_lt hj,List.getElem?_drop]
  have hlt: ∀j v,cs[j]? =some v->j<m*te.size:=fun j v hj=>by
   rw [<-hcl];rcases Nat.lt_or_ge j cs.length with q|q;·exact q
   ·rw [eL q]at hj;cases hj
  have hone: ∀v∈cs,v.oneCell'=true:=fun v hv'=>by
   obtain⟨j,hj,rfl⟩:=List.mem_iff_getElem.1 hv';rw [hcl]at hj;have hs:0<te.size:=by
    rcases Nat.eq_zero_or_pos te.size with q|q;·rw [q]at hj;omega
    ·exact q
   have hq:j / te.size<m:=(Nat.div_lt_iff_lt_mul hs).2 hj;obtain⟨u,z1,z2⟩:=f7 (j / te.size) hq (j % te.size) (eM _ hs);have hjj:j / te.size*te.size+j % te.size=j:=by rw [ed];exact Nat.div_add_mod j te.size
   rw [hjj,<-hcg j hj,cR (by rw [hcl];exact hj)]at z1;cases z1;exact z2.oneCell
  have hblk:=hi.blk b _ k hb g2;have hmin:Nat.min m m=m:=Nat.min_self m;have hrun:=wR (a:=a) hop (by
   rw [hv,hv2];exact IA (P:=P) w t t' o.type e te.size k base m _ ⟨k2,base2,none⟩ m _ vs.toArray E cs hu hinfo g3 (by rw [hcl,hmin]) (fun j v hj=>by
    have:=hlt j v hj;rw [dZ,bS f3,<-hcg j this];exact hj) (by simp;omega) hone)
  rw [hmin]at hrun;have pt:=Put.setRow w k (vs.toArray.toList.take base++cs++vs.toArray.toList.drop (base+cs.length)).toArray;refine bI (pt.gr hblk.2.1) (pt.fr fr hblk.2.2) ⟨_,pt.hi fr hi hb g2 (fun _ h=>h) ?_⟩ hrun rfl;refine .inr ⟨k,base,cap,g1,g2,_,setRow_heap w k _ _ E (0,0) g3, ?_,g5,g6,fun i hi' j hj=> ?_⟩;·simp only [b_,d7,d8,hcl];omega
  ·have hij:i*te.size+j<m*te.size:=by
    have:(i+1)*te.size<=m*te.size:=cG _ hi';rw [Nat.succ_mul]at this;omega
   have hlook:=dh vs cs base (by omega) (base+(i*te.size+j));show∃u,(vs.take base++cs++vs.drop (base+cs.length))[base+(i*te.size+j)]? =some u/\_;rw [hlook,ce (by omega),ci (by omega),show base+(i*te.size+j) - base=i*te.size+j by omega,hcg _ hij];obtain⟨u,z1,z2⟩:=f7 i hi' j hj;exact⟨u,z1,bG.gr (pt.gr (ρ:=ρ) hblk.2.1).fz (pt.gr (ρ:=ρ) hblk.2.1).mem z2⟩
theorem Mi {x y:Operand} {t t' e:TypeId} {te:TI} {xa ya:TV} {an:iJ} {obs:List (Option (Option Ob))} {E:Eff} (hu:P.underlying t=some (.slice e)) (hte:eG P e te)
  (hop:o.op= .call {callee:= .builtin .copy,args:= #[x,y],argTypes:= #[t,t'] }) (he:Iz an te xa ya obs=some E) (hc:All E.conds) (hobs:obs=(foot an 0 o.op [xa,ya]).map h)
  (fr:Fr B ρ F w) (hi:HI B ρ F w h) (hx:bE ρ F w xa (a.eval x)) (hy:bE ρ F w ya (a.eval y)):Good P B ρ F w h o a E.tv E.hd:=by
 unfold Iz at he;split at he
 ·rename_i c nn n nny eszx lenx elx b l E' esz len el;split at he
  ·rename_i b';cases hb:(Nat.beq b b' && Nat.beq te.size 1 && Nat.beq esz 1 && Nat.beq eszx 1)with
   |false=>simp [hb]at he
   |true=>
    simp only [hb,bt]at he;simp only [cd]at hb;have e1:=bv hb.1.1.1;have e2:=bv hb.1.1.2;have e3:=bv hb.1.2;have e4:=bv hb.2;subst e1;subst e3;subst e4;cases he;obtain⟨hn,_⟩:=hc;rw [hop]at hobs;simp [foot]at hobs;obtain⟨hsf,hob⟩:=hobs;have hinfo:(P.info? e).map (·.size)=some 1:=by
     obtain⟨_,i,z,q1,q2,_⟩:=hte;rw [q1];simp [q2,e2]
    obtain⟨ft,hi⟩:=hi;obtain⟨sa,scap,hsv,s1,s2,s3,s4,s5⟩:=hy;have hsv:a.eval y= .slice sa lenx scap:=hsv;have none0: ∀(d:Option Addr) (dl dc:Nat),a.eval x= .slice d dl dc->dl=n->Nat.min lenx n=0->Good P B ρ F w h o a (.v (.one (.d (.int .i64 (Nat.min lenx n:Nat))))) [(b,some (.arr E' 1 len (RD el l elx (Nat.min lenx n))))]:=by
     intro d dl dc hv hdl h0;subst hdl;have hrun:=wR (a:=a) hop (by rw [hv,hsv];exact run_copy_none (P:=P) w t t' o.type e d sa dl dc lenx scap hu hinfo h0);have hcp:RD el l elx (Nat.min lenx dl)=el:=by
      funext i j
      rw [h0];unfold RD;cases h1:Nat.ble l i with
      |false=>rfl
      |true=>
       have:=cj h1;have h2:Nat.blt i (l+0)=false:=by
        cases h3:Nat.blt i (l+0)with
        |false=>rfl
        |true=>have:=cj h3;omega
       rw [h2];rfl
     rw [hcp,h0];have hup:upd h [(b,some (.arr E' 1 len el))]=h:=by
      funext q
      rw [iZ];by_cases e:b=q;·subst e;rw [ci rfl];exact hob
      ·rw [ce e]
     exact bI (.refl _ _ _) fr ⟨ft,by rw [hup];exact hi⟩ hrun rfl
    by_cases h0:Nat.min lenx n=0
    ·rcases hx with⟨k,base,cap,hk,hv⟩|⟨_,_,hn0,hv⟩
     ·exact none0 _ _ _ hv rfl h0
     ·exact none0 _ _ _ hv hn0.symm h0
    ·have hm1:Nat.min lenx n<=lenx:=Nat.min_le_left _ _;have hm2:Nat.min lenx n<=n:=Nat.min_le_right _ _;obtain⟨m,hm⟩: ∃m,m=Nat.min lenx n:=⟨_,rfl⟩;rw [<-hm]at h0 hm1 hm2 ⊢;rcases hi.obj b _ hob.symm with⟨_,q0⟩|⟨k,base,cap,g1,g2,vs,g3,g4,g5,g6,g7⟩
     ·omega
     rcases hi.obj c _ hsf.symm with⟨q1,_⟩|⟨k',base',cap',q1,q2,q3⟩;·rw [g1]at q1;cases q1
     rw [g1]at q1;cases q1;unfold xA at q3;rw [ci rfl]at q3;obtain⟨cap2,q3⟩:=q3;rcases hx with⟨k',base',cap',hk,hv⟩|⟨_,hk,_,_⟩
     ·rw [q3]at hk;cases hk;cases sa with
      |none=>have:=(s3 rfl).1;omega
      |some ad=>
       obtain⟨t1,t2⟩:=s5 ad rfl;have tsp:=t1 (by omega);obtain⟨ak,ao,asp⟩:=ad;simp only at tsp;subst tsp;have tc: ∀i,i<m-> ∃u,w.cell? ⟨ak,ao+i,none⟩=some u/\bG F w (elx i 0) u:=fun i hi'=>by
        obtain⟨_,u,hu',hr⟩:=t2 i (by omega) 0 (by omega);exact⟨u,by rw [show ao+i=ao+(i*1+0) by omega];exact hu',hr⟩
       obtain⟨cs,hcs⟩: ∃cs:List Value,cs=(List.range m).map fun i=>(w.cell? ⟨ak,ao+i,none⟩).getD undef:=⟨_,rfl⟩;have hcl:cs.length=m:=by rw [hcs];simp
       have hcg: ∀i,i<m-> ∃u,cs[i]? =some u/\w.cell? ⟨ak,ao+i,none⟩=some u/\bG F w (elx i 0) u:=fun i hi'=>by
        obtain⟨u,hu',hr⟩:=tc i hi';refine⟨u, ?_,hu',hr⟩;rw [hcs,dj,List.getElem?_range hi'];simp [hu']
       have hblk:=hi.blk b _ k hob.symm g2;have hrun:=wR (a:=a) hop (by
        rw [hv,hsv];exact run_copy_row (P:=P) w t t' o.type e k (base+l) n cap2 ⟨ak,ao,none⟩ lenx scap vs.toArray E' cs hu hinfo g3 (by rw [hcl,hm]) (fun j v hj=>by
         have hj':j<m:=by
          rw [<-hcl];rcases Nat.lt_or_ge j cs.length with q|q;·exact q
          ·rw [eL q]at hj;cases hj
         obtain⟨u,z1,z2,_⟩:=hcg j hj';rw [hj]at z1;cases z1;rw [dZ];exact z2) (by simp;omega) (fun v hv'=>by
         obtain⟨i,hi',rfl⟩:=List.mem_iff_getElem.1 hv';obtain⟨u,z1,_,z3⟩:=hcg i (by omega);rw [cR hi']at z1;cases z1;exact z3.oneCell))
       have pt:=Put.setRow w k (vs.toArray.toList.take (base+l)++cs++vs.toArray.toList.drop (base+l+cs.length)).toArray;refine bI (pt.gr hblk.2.1) (pt.fr fr hblk.2.2) ⟨_,pt.hi fr hi hob.symm g2 (fun _ h=>h) ?_⟩ hrun (by show goInt cs.length=_;rw [hcl];rfl);refine .inr ⟨k,base,cap,g1,g2,_,setRow_heap w k _ _ E' (0,0) g3, ?_,g5,g6,fun i hi' j hj=> ?_⟩;·simp only [b_,d7,d8,hcl];omega
       ·obtain rfl:j=0:=by omega
        have hlook:=dh vs cs (base+l) (by omega) (base+(i*1+0));show∃u,(vs.take (base+l)++cs++vs.drop (base+l+cs.length))[base+(i*1+0)]? =some u/\_;rw [hlook];have hfz:=(pt.gr (ρ:=ρ) hblk.2.1).fz;have hmm:=(pt.gr (ρ:=ρ) hblk.2.1).mem;unfold RD;by_cases c1:l<=i
        ·rw [Nat.ble_eq_true_of_le c1];by_cases c2:i<l+m
         ·have:Nat.blt i (l+m)=true:=Nat.ble_eq_true_of_le c2;rw [this,Bool.and_self,bt,ce (by omega),ci (by omega)];obtain⟨u,z1,_,z3⟩:=hcg (i - l) (by omega);exact⟨u,by rw [show base+(i*1+0) - (base+l)=i - l by omega];exact z1,bG.gr hfz hmm z3⟩
         ·have:Nat.blt i (l+m)=false:=by
           cases h3:Nat.blt i (l+m)with
           |false=>rfl
           |true=>have:=cj h3;omega
          rw [this,Bool.and_false,bu,ce (by omega),ce (by omega)];obtain⟨u,z1,z2⟩:=g7 i hi' 0 hj;exact⟨u,z1,bG.gr hfz hmm z2⟩
        ·have:Nat.ble l i=false:=by
          cases h3:Nat.ble l i with
          |false=>rfl
          |true=>have:=cj h3;omega
         rw [this,Bool.false_and,bu,ci (by omega)];obtain⟨u,z1,z2⟩:=g7 i hi' 0 hj;exact⟨u,z1,bG.gr hfz hmm z2⟩
     ·rw [q3]at hk;cases hk
  ·cases he
 ·rename_i b nn n c nny m E' esz len el E2 esz2 len2 el2;split at he
  ·rename_i c';cases hb:(Nat.beq c c' && !(Nat.beq b c) && Nat.beq te.size esz && Nat.beq esz2 esz)with
   |false=>simp [hb]at he
   |true=>
    simp only [hb,bt]at he;simp only [cd,c_]at hb;have e1:=bv hb.1.1.1;have e2:=bv hb.1.2;have e3:=bv hb.2;subst e1;subst e2;subst e3;cases he;obtain⟨q1,q2,q3,_⟩:=hc;rw [hop]at hobs;simp [foot]at hobs;exact Gb hu hte hop hobs.1.symm hobs.2.symm (Nat.ne_of_beq_eq_false hb.1.1.2) q1 q2 q3 fr hi hx hy
  ·cases he
 ·cases he
end
section
variable {P:Program} {T:List (Nat × TI)} {B:Base} {ρ:Nat->Option Pl} {F:Nat->Prop} {w w':World} {h:Hp} {o:Oper} {a:Act}
theorem Fe {x:Operand} {t:TypeId} (hop:o.op= .call {callee:= .builtin .clear,args:= #[x],argTypes:= #[t] }) {v:Value}
  (hr:(Builtin.clear_ #[t] o.type #[a.eval x]).run P w= .ok v w'):(execOp a.eval o).run P w= .ok (.value v) w':=by
 obtain⟨consts,hex⟩:=jh (a:=a) hop;rw [hex];simp [builtin,hr]
theorem FR {z:Array Value} {n i j:Nat} (hi:i<n) (hj:j<z.size):(Builtin.zeroCells z n).toList[i*z.size+j]? =some z[j]! :=by
 have hlt:i*z.size+j<n*z.size:=by
  have:(i+1)*z.size<=n*z.size:=cG _ hi;rw [Nat.succ_mul]at this;omega
 simp only [Builtin.zeroCells,Array.getElem?_toList,Array.getElem?_map];rw [eR (by simpa using hlt)];simp only [Option.map_some,Array.getElem_range];rw [ed i,Nat.mul_add_mod,Nat.mod_eq_of_lt hj]
theorem Ki {x:Operand} {t e:TypeId} {te:TI} {xa:TV} {an:iJ} {obs:List (Option (Option Ob))} {E:Eff} (hu:P.underlying t=some (.slice e)) (hte:eG P e te)
  (hop:o.op= .call {callee:= .builtin .clear,args:= #[x],argTypes:= #[t] }) (he:Dm an te xa obs=some E) (hc:All E.conds) (hobs:obs=(foot an 0 o.op [xa]).map h)
  (fr:Fr B ρ F w) (hi:HI B ρ F w h) (hx:bE ρ F w xa (a.eval x)):Good P B ρ F w h o a E.tv E.hd:=by
 unfold Dm at he;split at he
 ·rename_i c nn n b l s E' esz len el;split at he
  ·rename_i b' z hz;cases hb:(Nat.beq b b' && Nat.beq te.size esz && Nat.beq s esz && Nat.beq te.zero.length te.size && Nat.ble 1 esz)with
   |false=>simp [hb]at he
   |true=>
    simp only [hb,bt]at he;simp only [cd]at hb;have e1:=bv hb.1.1.1.1;have e2:=bv hb.1.1.1.2;have e3:=bv hb.1.1.2;have e4:=bv hb.1.2;have e5:=cj hb.2;subst e1;subst e3;cases he;obtain⟨hn,_⟩:=hc;rw [hop]at hobs;simp [foot]at hobs;obtain⟨hsf,hob⟩:=hobs;obtain⟨zv,hzr,hzc⟩:=oG (w:=w) hte;have hzs:zv.cells.size=s:=by rw [<-de,hzc,e4,e2]
    have zrep:=jD (ρ:=ρ) (F:=F) (w:=w) hz;rw [<-hzc]at zrep;obtain⟨ft,hi⟩:=hi;have none0:n=0->len<=l->(Builtin.clear_ #[t] o.type #[a.eval x]).run P w= .ok (.tuple #[]) w->Good P B ρ F w h o a (.eB []) [(b,some (.arr E' s len (Ap el l z)))]:=by
     intro h0 hl0 hrun;have hup:mg B ρ F w (upd h [(b,some (.arr E' s len (Ap el l z)))]) ft:=by
      have ha: ∀i,i<len-> ∀j,j<s->Ap el l z i j=el i j:=fun i hi' j hj=>by
       unfold Ap;rw [show Nat.blt i l=true from Nat.ble_eq_true_of_le (by omega)];rfl
      have hu: ∀q,upd h [(b,some (.arr E' s len (Ap el l z)))] q=if b=q then some (some (.arr E' s len (Ap el l z)))else h q:=fun q=>iZ ..
      refine⟨fun q ob hq=> ?_,fun q ob k hq hk=> ?_,fun q q' ob ob' k hq hq' hk hk'=> ?_,fun q hq=> ?_,hi.gl⟩
      ·rw [hu]at hq;split at hq
       ·rename_i eq;subst eq;cases hq;rcases hi.obj b _ hob.symm with q0|⟨k,base,cap,g1,g2,vs,g3,g4,g5,g6,g7⟩
        ·exact .inl q0
        ·refine .inr ⟨k,base,cap,g1,g2,vs,g3,g4,g5,g6,fun i hi' j hj=> ?_⟩;rw [ha i hi' j hj];exact g7 i hi' j hj
       ·exact hi.obj q ob hq
      ·rw [hu]at hq;split at hq
       ·rename_i eq;subst eq;cases hq;exact hi.blk b _ k hob.symm hk
       ·exact hi.blk q ob k hq hk
      ·have key: ∀q ob,upd h [(b,some (.arr E' s len (Ap el l z)))] q=some (some ob)-> ∃ob0,h q=some (some ob0):=fun q ob hq=>by
        rw [hu]at hq;split at hq;·rename_i eq;subst eq;exact⟨_,hob.symm⟩
        ·exact⟨_,hq⟩
       obtain⟨o1,h1⟩:=key q ob hq;obtain⟨o2,h2⟩:=key q' ob' hq';exact hi.dis q q' o1 o2 k h1 h2 hk hk'
      ·rw [hu]at hq;split at hq
       ·cases hq
       ·exact hi.fresh q hq
     exact bI (.refl _ _ _) fr ⟨ft,hup⟩ (Fe (a:=a) hop hrun) ⟨[],rfl,trivial⟩
    rcases hi.obj b _ hob.symm with⟨q00,q0⟩|⟨k,base,cap,g1,g2,vs,g3,g4,g5,g6,g7⟩
    ·have hn0:n=0:=by omega
     refine none0 hn0 (by omega) ?_;rcases hx with⟨k',base',cap',_,hv⟩|⟨_,_,_,hv⟩<;>rw [hv]<;>(try rw [hn0])<;>simp [Builtin.clear_,run_underlying hu]
    by_cases h0:n=0
    ·refine none0 h0 (by omega) ?_;rcases hx with⟨k',base',cap',_,hv⟩|⟨_,_,_,hv⟩<;>rw [hv]<;>(try rw [h0])<;>simp [Builtin.clear_,run_underlying hu]
    rcases hi.obj c _ hsf.symm with⟨q1,_⟩|⟨k',base',cap',q1,q2,q3⟩;·rw [g1]at q1;cases q1
    rw [g1]at q1;cases q1;unfold xA at q3;rw [ce (by omega),ce (by omega)]at q3;rcases hx with⟨k',base',cap',hk,hv⟩|⟨_,hk,_,_⟩
    ·rw [q3]at hk;cases hk;obtain⟨m,hm⟩: ∃m,n=m+1:=⟨n - 1,by omega⟩;obtain⟨cs,hcs⟩: ∃cs,cs=(Builtin.zeroCells zv.cells n).toList:=⟨_,rfl⟩;have hcl:cs.length=n*s:=by rw [hcs];simp [Builtin.zeroCells,hzs]
     have hcg: ∀i,i<n-> ∀j,j<s-> ∃u,cs[i*s+j]? =some u/\bG F w (z.getD j .nilp) u:=fun i hi' j hj=>by
      have:=FR (z:=zv.cells) hi' (by rw [hzs];exact hj);rw [hzs,<-hcs]at this;refine⟨_,this, ?_⟩;have hzl:z.length=s:=by
       have:=zrep.length;simp only [dg,de]at this;omega
      have hj':j<z.length:=by omega
      obtain⟨u,hu1,hu2⟩:=zrep.get (j:=j) (c:= .d z[j]) (by simp [hj']);rw [Array.getElem?_toList,eR (by omega)]at hu1;cases hu1;rw [cS,cR hj',getElem!_pos zv.cells j (by omega)];exact hu2
     have hblk:=hi.blk b _ k hob.symm g2;have hfit:base+l*s+cs.length<=vs.length:=by
      rw [hcl];have:(l+n)*s<=cap*s:=cG _ (by omega);rw [ee]at this;omega
     have h1: ∀v∈cs,v.oneCell'=true:=fun v hv'=>by
      obtain⟨i,hi',rfl⟩:=List.mem_iff_getElem.1 hv';have hi'':i<n*s:=by omega
      obtain⟨u,z1,z3⟩:=hcg (i / s) (Nat.div_lt_of_lt_mul (by rwa [ed]at hi'')) (i % s) (eM _ (by omega));rw [show i / s*s+i % s=i by rw [ed];exact Nat.div_add_mod i s,cR hi']at z1;cases z1;exact z3.oneCell
     have hst:=run_storeCells_at P k (base+l*s) E' cs 0 vs.toArray w g3 (by simpa using hfit) h1;have hrun:=Fe (P:=P) (w:=w) (a:=a) hop (v:= .tuple #[]) (w':=w.setRow k (vs.toArray.toList.take (base+l*s)++cs++vs.toArray.toList.drop (base+l*s+cs.length)).toArray) (by
      rw [hv,hm];simp only [Nat.add_zero]at hst;have hzr':=hzr;rw [hm]at hcs;simp [Builtin.clear_,run_underlying hu,hzr',<-hcs,hst])
     have pt:=Put.setRow w k (vs.toArray.toList.take (base+l*s)++cs++vs.toArray.toList.drop (base+l*s+cs.length)).toArray;refine bI (pt.gr hblk.2.1) (pt.fr fr hblk.2.2) ⟨_,pt.hi fr hi hob.symm g2 (fun _ h=>h) ?_⟩ hrun ⟨[],rfl,trivial⟩;refine .inr ⟨k,base,cap,g1,g2,_,setRow_heap w k _ _ E' (0,0) g3, ?_,g5,g6,fun i hi' j hj=> ?_⟩;·simp only [b_,d7,d8,hcl];omega
     ·have hlook:=dh vs cs (base+l*s) hfit (base+(i*s+j));show∃u,(vs.take (base+l*s)++cs++vs.drop (base+l*s+cs.length))[base+(i*s+j)]? =some u/\_;rw [hlook];have hfz:=(pt.gr (ρ:=ρ) hblk.2.1).fz;have hmm:=(pt.gr (ρ:=ρ) hblk.2.1).mem;unfold Ap;by_cases c1:i<l
      ·rw [show Nat.blt i l=true from Nat.ble_eq_true_of_le c1,bt];have:(i+1)*s<=l*s:=cG _ c1;rw [Nat.succ_mul]at this;rw [ci (by omega)];obtain⟨u,z1,z2⟩:=g7 i hi' j hj;exact⟨u,z1,bG.gr hfz hmm z2⟩
      ·have:Nat.blt i l=false:=by
        cases h3:Nat.blt i l with
        |false=>rfl
        |true=>have:=cj h3;omega
       rw [this,bu];have h4:l*s<=i*s:=cG _ (by omega);have h5:(i+1)*s<=(l+n)*s:=cG _ (by omega);rw [Nat.succ_mul,ee]at h5;rw [ce (by omega),ci (by rw [hcl];omega)];obtain⟨u,z1,z3⟩:=hcg (i - l) (by omega) j hj;refine⟨u, ?_,bG.gr hfz hmm z3⟩;rw [show base+(i*s+j) - (base+l*s)=(i - l)*s+j by rw [Nat.sub_mul];omega];exact z1
    ·rw [q3]at hk;cases hk
  ·cases he
 ·cases he
end
section
variable {P:Program} {B:Base} {ρ ρ':Nat->Option Pl} {F F':Nat->Prop} {w w':World} {h:Hp} {o:Oper} {a:Act} {T:List (Nat × TI)}
theorem sZ (f:Nat->DV): ∀i n,dS (fun j=> .d (f j)) i n=(bT f i n).map .d
 |_,0=>rfl
 |i,n+1=>by simp [dS,bT,sZ f (i+1) n]
theorem Fx {agg:Bool} {ds:List DV} {ks:List KD} {s:SV} {v:Value} (hk:ax ks ds=true) (hs:jU agg (ds.map .d)=some s) (hr:fB ρ F w s v):v=eD agg (ds.map fT):=by
 cases agg with
 |true=>
  simp [jU]at hs;subst hs;obtain⟨vs,rfl,hr⟩:=hr;rw [pY hk hr];rfl
 |false=>
  match ds,hs with
  |[d],hs=>
   simp [jU]at hs;subst hs;have:=pY (vs:=[v]) hk (ρ:=ρ) (F:=F) (w:=w) ⟨hr,trivial⟩;simp at this;simp [eD,this]
theorem GK {agg:Bool} {s:SV} {ds:List DV} {ks:List KD} {v:Value} (hk:ax ks ds=true) (ha:tq s=agg) (hd:o8 (cellsOf s)=some ds) (hr:fB ρ F w s v):v=eD agg (ds.map fT):=by
 refine Fx hk ?_ hr;rw [<-gF hd];cases s with
 |one c=>simp [tq]at ha;subst ha;rfl
 |agg cs=>simp [tq]at ha;subst ha;rfl
theorem RA: ∀{k:KD} {ks:List KD} {x y:DV} {xs ys:List DV},ax (k::ks) (x::xs)=true->ax (k::ks) (y::ys)=true->ax ks xs=true/\ax ks ys=true/\ ∃b,NC x y=some b:=by
 intro k ks x y xs ys hx hy;cases k with
 |i k=>
  cases x<;>simp [ax]at hx;cases y<;>simp [ax]at hy;exact⟨hx.2,hy.2,by simp [NC,<-hx.1,<-hy.1]⟩
 |b=>
  cases x<;>simp [ax]at hx;cases y<;>simp [ax]at hy;exact⟨hx,hy,by simp [NC]⟩
 |s=>
  cases x<;>simp [ax]at hx;cases y<;>simp [ax]at hy;exact⟨hx,hy,by simp [NC]⟩
theorem Hg: ∀{ks:List KD} {xs ys:List DV},ax ks xs=true->ax ks ys=true-> ∃b,iy xs ys=some b
 |[],[],[],_,_=> ⟨true,rfl⟩
 |[],_::_,_,h,_=>by simp [ax]at h
 |[],[],_::_,_,h=>by simp [ax]at h
 |k::ks,[],_,h,_=>by cases k<;>simp [ax]at h
 |k::ks,_::_,[],_,h=>by cases k<;>simp [ax]at h
 |k::ks,x::xs,y::ys,h1,h2=>by
  obtain⟨g1,g2,b,hb⟩:=RA h1 h2;obtain⟨c,hc⟩:=Hg g1 g2;exact⟨b && c,by simp [iy,hb,hc]⟩
theorem RY {a b:ByteArray} (h:(a==b)=true):a=b:=by
 obtain⟨x⟩:=a;obtain⟨y⟩:=b;have h2:(x==y)=true:=h;rw [eq_of_beq h2]
theorem Us (a:ByteArray):(a==a)=true:=by
 obtain⟨d⟩:=a;show(d==d)=true;exact beq_self_eq_true d
theorem Qf {x y:DV} (h:NC x y=some true):x=y:=by
 cases x<;>cases y<;>simp [NC]at h
 ·rename_i k a k' b;by_cases e:k=k'
  ·subst e;simp at h;rw [h]
  ·simp [e]at h
 ·rw [h]
 ·rw [RY h]
theorem G7: ∀{xs ys:List DV},iy xs ys=some true->xs=ys
 |[],[],_=>rfl
 |[],_::_,h=>by simp [iy]at h
 |_::_,[],h=>by simp [iy]at h
 |x::xs,y::ys,h=>by
  simp only [iy]at h;split at h
  ·rename_i a b ha hb;simp at h;obtain⟨rfl,rfl⟩:=h;rw [Qf ha,G7 hb]
  ·cases h
def kF (q:MapEntry->Bool):List MapEntry->Nat->Option (Nat × Value)
 |[],_=>none
 |e::es,i=>if q e then some (i,e.val)else kF q es (i+1)
theorem uT {q:MapEntry->Bool}: ∀{es:List MapEntry} {i j:Nat} {e:MapEntry},es[j]? =some e->q e=true->(∀j' e',j'<j->es[j']? =some e'->q e'=false)->kF q es i=some (i+j,e.val)
 |[],_,_,_,h,_,_=>by simp at h
 |e0::es,i,0,e,h,hq,_=>by simp at h;subst h;simp [kF,hq]
 |e0::es,i,j+1,e,h,hq,hn=>by
  have h0:=hn 0 e0 (by omega) rfl;simp only [kF,h0];rw [ce (by simp),uT (i:=i+1) (j:=j) (by simpa using h) hq fun j' e' hj he=>hn (j'+1) e' (by omega) (by simpa using he)];congr 2;omega
theorem oW {q:MapEntry->Bool}: ∀{es:List MapEntry} {i:Nat},(∀e∈es,q e=false)->kF q es i=none
 |[],_,_=>rfl
 |e0::es,i,h=>by
  simp only [kF,h e0 (by simp)];rw [ce (by simp),oW fun e he=>h e (by simp [he])]
theorem vV {K:TypeId} {k:Value} {q:MapEntry->Bool}: ∀{es:List MapEntry} {i:Nat},(∀e∈es,(Op.equal K k e.key).run P w= .ok (q e) w)->(Instr.findAsking K k es i).run P w= .ok (kF q es i) w
 |[],_,_=>by simp [Instr.findAsking,kF]
 |e::es,i,h=>by
  simp only [Instr.findAsking,eC,h e (by simp),eA,kF];split;·simp
  ·exact vV fun e he=>h e (by simp [he])
theorem A7 {d:TypeDesc} {k:Value} {q:MapEntry->Bool}: ∀{es:List MapEntry} {i:Nat},(∀e∈es,Instr.sameNow d k e.key=some (q e))->Instr.findNow d k es i=some (kF q es i)
 |[],_,_=>by simp [Instr.findNow,kF]
 |e::es,i,h=>by
  simp only [Instr.findNow,h e (by simp),kF];cases hq:q e with
  |true=>simp
  |false=>simp;exact A7 fun e he=>h e (by simp [he])
theorem run_findKey {K:TypeId} {tk:TI} (ht:eG P K tk) {k:Value} {q:MapEntry->Bool} {es:List MapEntry} (h1: ∀e∈es,(Op.equal K k e.key).run P w= .ok (q e) w)
  (h2:(∀e∈es,Instr.sameNow tk.d k e.key=some (q e))\/ ∀e∈es,Instr.sameNow tk.d k e.key=none):(Instr.findKey K k es).run P w= .ok (kF q es 0) w:=by
 have hu:=aL (w:=w) ht;rw [Instr.findKey,eC,hu];simp only [eA];rcases h2 with h2|h2;·rw [A7 h2];rfl
 ·cases es with
  |nil=>simp [Instr.findNow,kF]
  |cons e es=>
   simp only [Instr.findNow,h2 e (by simp)];exact vV h1
theorem xM (hT:kg P T) {em:Bool} {n:Nat} {e:TypeId} {te:TI} {l:List KD} (hte:get T e=some te) (hl:l.length=te.size) (hk1:te.agg=false->l.length=1)
  (ih: ∀w ds,ax l ds=true->(Instr.checkKey em n e (eD te.agg (ds.map fT))).run P w= .ok () w) (xs:Array Value):
  ∀(m start:Nat) (pre ds:List DV) (w:World),pre.length=start*te.size->ax (List.replicate m l).flatten ds=true->xs=((pre++ds).map fT).toArray->
   (forIn (m:=Sem) (List.range' start m) PUnit.unit fun i _=>do Instr.checkKey em n e (<-part e xs (i*(<-Go.sizeOf e)));pure (ForInStep.yield PUnit.unit)).run P w= .ok PUnit.unit w
 |0,start,pre,ds,w,_,_,_=>by simp
 |m+1,start,pre,ds,w,hp,hk,hx=>by
  rw [List.replicate_succ,List.flatten_cons]at hk;obtain⟨d1,d2,rfl,k1,k2⟩:=fP hk;have l1:=eu k1;have p1:=uQ (w:=w) (hT.get hte) (pre:=pre) (dl:=d1) (post:=d2) (by rw [l1,hl]) (fun ha=>by rw [l1];exact hk1 ha);rw [hp,<-hx]at p1;rw [List.range'_succ,List.forIn_cons];simp only [eC,dw (hT.get hte),p1,ih w d1 k1,eA,Sem.run_pure];exact xM hT hte hl hk1 ih xs m (start+1) (pre++d1) d2 w (by simp [hp,l1,hl,ee]) k2 (by rw [cQ];exact hx)
theorem run_checkKey (hT:kg P T) {em:Bool} {K:TypeId} {tk:TI} {ks:List KD} {ds:List DV} (hk:get T K=some tk) (hf:flatK T 8 K=some ks) (hkk:tF T tk.d=true) (hds:ax ks ds=true):
  (Instr.checkKey em 10000 K (eD tk.agg (ds.map fT))).run P w= .ok () w:=by
 have ht:=hT.get hk;have hu:=aL (w:=w) ht;unfold flatK at hf;rw [hk]at hf;simp only at hf;unfold tF at hkk;cases hd:tk.d with
 |int k=>rw [hd]at hu;rw [Instr.checkKey,eC,hu];rfl
 |bool=>rw [hd]at hu;rw [Instr.checkKey,eC,hu];rfl
 |string=>rw [hd]at hu;rw [Instr.checkKey,eC,hu];rfl
 |array n e=>
  rw [hd]at hf hkk hu;simp only at hf hkk;split at hf
  ·rename_i l te hl hte;cases hb:(Nat.beq l.length te.size && Nat.beq (List.replicate n l).flatten.length tk.size)with
   |false=>rw [hb]at hf;cases hf
   |true=>
    simp only [hb,bt]at hf;cases hf;simp only [cd]at hb;rw [hte]at hkk;simp only at hkk;have hagg:tk.agg=true:=by simp [TI.agg,hd]
    have hs:=dw (w:=w) (hT.get hte);have ih: ∀w ds,ax l ds=true->(Instr.checkKey em 9999 e (eD te.agg (ds.map fT))).run P w= .ok () w:=fun w ds _=>by
     have hue:=aL (w:=w) (hT.get hte);cases hde:te.d with
     |int k=>rw [hde]at hue;rw [Instr.checkKey,eC,hue];rfl
     |bool=>rw [hde]at hue;rw [Instr.checkKey,eC,hue];rfl
     |_=>rw [hde]at hkk;simp at hkk
    have:=xM (w:=w) hT (em:=em) hte (bv hb.1) (fun ha=>ru hl hte ha) ih (ds.map fT).toArray n 0 [] ds (by simp) hds (by simp);rw [hagg,Instr.checkKey,eC,hu];simp only [eA,eD,bt];simp only [Std.Legacy.Range.forIn_eq_forIn_range',Std.Legacy.Range.size,Nat.sub_zero,Nat.add_sub_cancel,Nat.div_one];rw [eC,this];rfl
  ·cases hf
 |_=>rw [hd]at hkk;simp at hkk
theorem Gs {K V:TypeId} {m:Mj} {k:TV} {tk tv:TI} {kk:List KD} {kd:List DV} (h:keyOf T K V m k=some (tk,tv,kk,kd)):
  ∃ks,k= .v ks/\get T K=some tk/\get T V=some tv/\flatK T 8 K=some kk/\o8 (cellsOf ks)=some kd/\K=m.K/\V=m.V/\m.kagg=tk.agg/\m.vagg=tv.agg/\m.ksz=tk.size/\m.vsz=tv.size/\ax kk kd=true/\tq ks=tk.agg/\tF T tk.d=true:=by
 unfold keyOf at h;split at h
 ·rename_i ks;split at h
  ·rename_i tk' tv' kk' kd' h1 h2 h3 h4;cases hb:(Nat.beq K m.K && Nat.beq V m.V && (m.kagg==tk'.agg) && (m.vagg==tv'.agg) && Nat.beq m.ksz tk'.size && Nat.beq m.vsz tv'.size && ax kk' kd' && (tq ks==tk'.agg) && tF T tk'.d)with
   |false=>rw [hb]at h;cases h
   |true=>
    rw [hb]at h;simp only [bt,Option.some.injEq,Prod.mk.injEq]at h;obtain⟨rfl,rfl,rfl,rfl⟩:=h;simp only [cd,beq_iff_eq]at hb;obtain⟨⟨⟨⟨⟨⟨⟨⟨b1,b2⟩,b3⟩,b4⟩,b5⟩,b6⟩,b7⟩,b8⟩,b9⟩:=hb;exact⟨ks,rfl,h1,h2,h3,h4,bv b1,bv b2,b3,b4,bv b5,bv b6,b7,b8,b9⟩
  ·cases h
 ·cases h
theorem Gq {x:TV} {obs:List (Option (Option Ob))} {b:Nat} {m:Mj} (h:mapOf x obs=some (b,m)):x= .v (.one (.mp b))/\obs=[some (some (.map m))]:=by
 unfold mapOf at h;split at h;·cases h;exact⟨rfl,rfl⟩
 ·cases h
theorem KP (hT:kg P T) {K:TypeId} {tk:TI} {kk:List KD} {kd:List DV} {m:Mj} {es:Array MapEntry} (hk:get T K=some tk) (hf:flatK T 8 K=some kk) (hkk:tF T tk.d=true) (hkd:ax kk kd=true)
  (hsz:m.kagg=tk.agg) (hes:es.size=m.len) (hkinds: ∀i,i<m.len->ax kk (bT (m.key i) 0 m.ksz)=true)
  (hent: ∀i,i<m.len-> ∃e,es[i]? =some e/\e.born=i/\rC ρ F w m.kagg m.ksz (fun j=> .d (m.key i j)) e.key/\rC ρ F w m.vagg m.vsz (m.val i) e.val):
  ∃q:MapEntry->Bool,(Instr.findKey K (eD tk.agg (kd.map fT)) es.toList).run P w= .ok (kF q es.toList 0) w/\ ∀i e,es[i]? =some e->iy kd (bT (m.key i) 0 m.ksz)=some (q e):=by
 classical
 have ht:=hT.get hk;have hkey: ∀i e,es[i]? =some e->i<m.len/\e.key=eD tk.agg ((bT (m.key i) 0 m.ksz).map fT)/\ ∃b,iy kd (bT (m.key i) 0 m.ksz)=some b:=fun i e he=>by
  have hi:i<m.len:=by rw [<-hes];exact(Array.getElem?_eq_some_iff.1 he).1
  obtain⟨e',h1,_,⟨s,h2,h3⟩,_⟩:=hent i hi;rw [he]at h1;cases h1;rw [sZ,hsz]at h2;exact⟨hi,Fx (hkinds i hi) h2 h3,Hg hkd (hkinds i hi)⟩
 let q:MapEntry->Bool:=fun e=>decide (∃i,es[i]? =some e/\iy kd (bT (m.key i) 0 m.ksz)=some true)
 have hq: ∀i e,es[i]? =some e->iy kd (bT (m.key i) 0 m.ksz)=some (q e):=fun i e he=>by
  obtain⟨hi,hke,b,hb⟩:=hkey i e he;rw [hb];congr 1;cases b with
  |true=>exact(bx (⟨i,he,hb⟩: ∃i,es[i]? =some e/\iy kd (bT (m.key i) 0 m.ksz)=some true)).symm
  |false=>
   refine(bz ?_).symm;rintro ⟨i',he',hb'⟩;obtain⟨hi',_⟩:=hkey i' e he';have e1:=(hent i hi);have e2:=(hent i' hi');obtain⟨x,x1,x2,_⟩:=e1;obtain⟨y,y1,y2,_⟩:=e2;rw [he]at x1;cases x1;rw [he']at y1;cases y1;have:i=i':=x2.symm.trans y2;subst this;rw [hb]at hb';cases hb'
 refine⟨q,run_findKey ht (fun e he=> ?_) ?_,hq⟩
 ·obtain⟨i,hi⟩:=List.getElem?_of_mem he;have hi':es[i]? =some e:=by simpa using hi
  obtain⟨h1,h2,_⟩:=hkey i e hi';rw [h2];exact(oN hT 8 10000 (by omega) K kk tk hf hk).2 w kd _ _ hkd (hkinds i h1) (hq i e hi')
 ·unfold flatK at hf;rw [hk]at hf;simp only at hf;unfold tF at hkk;cases hd:tk.d with
  |int k=>
   left;intro e he;obtain⟨i,hi⟩:=List.getElem?_of_mem he;have hi':es[i]? =some e:=by simpa using hi
   obtain⟨h1,h2,_⟩:=hkey i e hi';have h3:=hkinds i h1;have h4:=hq i e hi';rw [hd]at hf;simp only at hf;cases hb:Nat.beq tk.size 1 with
   |false=>simp [hb]at hf
   |true=>
    simp only [hb,bt]at hf;cases hf;have hagg:tk.agg=false:=by simp [TI.agg,hd]
    rw [h2];generalize bT (m.key i) 0 m.ksz=ds at h3 h4 ⊢
    match kd,ds,hkd,h3,h4 with
    |[.int k1 x],[.int k2 y],hkd,h3,h4=>
     simp [ax]at hkd h3;subst hkd;subst h3;simp [iy,NC]at h4;simp [eD,hagg,fT,Instr.sameNow,j6,h4]
    | .int _ _::_::_,_,hkd,_,_=>simp [ax]at hkd
    |[.int _ _], .int _ _::_::_,_,h3,_=>simp [ax]at h3
  |bool=>
   left;intro e he;obtain⟨i,hi⟩:=List.getElem?_of_mem he;have hi':es[i]? =some e:=by simpa using hi
   obtain⟨h1,h2,_⟩:=hkey i e hi';have h3:=hkinds i h1;have h4:=hq i e hi';rw [hd]at hf;simp only at hf;cases hb:Nat.beq tk.size 1 with
   |false=>simp [hb]at hf
   |true=>
    simp only [hb,bt]at hf;cases hf;have hagg:tk.agg=false:=by simp [TI.agg,hd]
    rw [h2];generalize bT (m.key i) 0 m.ksz=ds at h3 h4 ⊢
    match kd,ds,hkd,h3,h4 with
    |[.bool x],[.bool y],hkd,h3,h4=>
     simp [iy,NC]at h4;simp [eD,hagg,fT,Instr.sameNow,h4]
  |string=>
   left;intro e he;obtain⟨i,hi⟩:=List.getElem?_of_mem he;have hi':es[i]? =some e:=by simpa using hi
   obtain⟨h1,h2,_⟩:=hkey i e hi';have h3:=hkinds i h1;have h4:=hq i e hi';rw [hd]at hf;simp only at hf;cases hb:Nat.beq tk.size 1 with
   |false=>simp [hb]at hf
   |true=>
    simp only [hb,bt]at hf;cases hf;have hagg:tk.agg=false:=by simp [TI.agg,hd]
    rw [h2];generalize bT (m.key i) 0 m.ksz=ds at h3 h4 ⊢
    match kd,ds,hkd,h3,h4 with
    |[.str x],[.str y],hkd,h3,h4=>
     simp [iy,NC]at h4;simp [eD,hagg,fT,Instr.sameNow,h4]
  |array n e=>
   right;intro e he;have hagg:tk.agg=true:=by simp [TI.agg,hd]
   rw [hagg];simp [Instr.sameNow,eD]
  |_=>rw [hd]at hkk;simp at hkk
def Ev (z:Value):Option (Nat × Value)->Value
 |some (_,v)=>v
 |none=>z
theorem Ct {t K V:TypeId} {x y:Operand} {ok:Bool} {ti tv:TI} (ht:eG P t ti) (hd:ti.d= .map K V) (hv:eG P V tv) (hop:o.op= .lookup t x y ok) {r:Nat} {es:Array MapEntry} {cl:Nat} (hx:a.eval x= .map (some r)) (hr:w.heap[r]? =some (.map es cl))
  {kv z:Value} (hy:a.eval y=kv) (hck: ∀em,(Instr.checkKey em 10000 K kv).run P w= .ok () w) {res:Option (Nat × Value)} (hf:(Instr.findKey K kv es.toList).run P w= .ok res w) (hz:(zeroValue V).run P w= .ok z w):
  (execOp a.eval o).run P w= .ok (.value (if ok then .tuple #[Ev z res, .bool res.isSome]else Ev z res)) w:=by
 have hu:=aL (w:=w) ht;rw [hd]at hu;have hg:(getObj r).run P w= .ok (.map es cl) w:=by simp [getObj,Sem.run,hr]
 simp only [execOp,hop,Instr.lookup,eC,hu,eA,hx,hy,hg,Sem.run_pure,hck,hf];cases res with
 |none=>simp [hz,Ev]
 |some p=>obtain⟨i,v⟩:=p;simp [Ev]
theorem Jl (hT:kg P T) {V:TypeId} {tv:TI} (hV:get T V=some tv) {zv:Value} (h1:(zeroValue V).run P w= .ok zv w) (h2:zv.cells.toList=tv.zero) {z:List DV} (hz:nY tv.zero=some z) {s:SV} (hs:jU tv.agg (z.map .d)=some s):fB ρ F w s zv:=by
 have hzr:=jD (ρ:=ρ) (F:=F) (w:=w) hz;rw [<-h2]at hzr;have hsh:Du tv.agg zv=true:=by
  obtain⟨_,i,z',hi,_,_,hz',_⟩:=hT.get hV;have:(zeroValue V).run P w= .ok z' w:=by simp [zeroValue,typeInfo,hi,hz']
  rw [this]at h1;cases h1;exact hT.aaX hV i zv hi hz'
 cases hag:tv.agg with
 |true=>
  rw [hag]at hs hsh;simp [jU]at hs;subst hs;cases zv<;>simp [Du]at hsh;rename_i us;exact⟨us.toList,by simp,hzr⟩
 |false=>
  rw [hag]at hs hsh
  match z,hs with
  |[d],hs=>
   simp [jU]at hs;subst hs;have hc:zv.cells.toList=[zv]:=by cases zv<;>simp [Du]at hsh<;>rfl
   rw [hc]at hzr;exact hzr.1
theorem IB (hT:kg P T) {t:TypeId} {x y:Operand} {ok:Bool} {ti:TI} {xa ya:TV} {an:iJ} {obs:List (Option (Option Ob))} {E:Eff} (ht:eG P t ti) (hop:o.op= .lookup t x y ok) (he:BZ T an ti.d xa ya ok obs=some E) (hc:All E.conds)
  (hobs:obs=(foot an 0 (.lookup t x y ok) [xa,ya]).map h) (fr:Fr B ρ F w) (hi:HI B ρ F w h) (hx:bE ρ F w xa (a.eval x)) (hy:bE ρ F w ya (a.eval y)):Good P B ρ F w h o a E.tv E.hd:=by
 unfold BZ at he;split at he
 ·rename_i K V hd;split at he
  ·rename_i b m hm;split at he
   ·rename_i tk tv kk kd hko;split at he
    ·rename_i okk cs;split at he
     ·rename_i z s hz hs;cases he;obtain⟨⟨hkinds,hres⟩,_⟩:=hc;obtain⟨rfl,hob⟩:=Gq hm;obtain⟨ks,rfl,k1,k2,k3,k4,k5,k6,k7,k8,k9,k10,k11,k12,k13⟩:=Gs hko;rw [hobs]at hob;simp [foot]at hob;obtain⟨k,base,cap,hk,hv⟩:=hx;obtain⟨ft,hi0⟩:=id hi;obtain⟨k',base',cap',es,m1,m0,m2,m3,m4,m5⟩:=hi0.obj b _ hob;rw [hk]at m1;cases m1;have hky:=GK k11 k12 k4 hy;obtain⟨q,f1,f2⟩:=KP (ρ:=ρ) (F:=F) (w:=w) hT k1 k3 k13 k11 k7 m3 hkinds m5;obtain⟨zv,z1,z2⟩:=oG (w:=w) (hT.get k2);have hrun:=Ct (w:=w) ht hd (hT.get k2) hop hv m2 hky (fun em=>run_checkKey hT k1 k3 k13 k11) f1 z1;have hfin: ∀v,fB ρ F w s v->Ev zv (kF q es.toList 0)=v->(kF q es.toList 0).isSome=okk->Good P B ρ F w h o a (bif ok then .eB [s, .one (.d (.bool okk))]else .v s) []:=by
       intro v hrv h1 h2;rw [h1,h2]at hrun;cases ok with
       |true=>exact aH fr hi hrun ⟨[v, .bool okk],rfl,hrv,rfl,trivial⟩
       |false=>exact aH fr hi hrun hrv
      rcases hres with⟨rfl,i,hil,hi1,hi2,rfl⟩|⟨rfl,hi1,hz0⟩
      ·obtain⟨e,e1,_,_,⟨s',e3,e4⟩⟩:=m5 i hil;rw [k8,hs]at e3;cases e3;have hfe:=uT (q:=q) (es:=es.toList) (i:=0) (j:=i) (e:=e) (by simpa using e1) (by have:=f2 i e e1;rw [hi1]at this;simpa using this.symm)
        (fun j' e' hj he'=>by have:=f2 j' e' (by simpa using he');rw [hi2 j' hj]at this;simpa using this.symm)
       exact hfin e.val e4 (by rw [hfe];rfl) (by rw [hfe];rfl)
      ·have hfe:kF q es.toList 0=none:=oW fun e he=>by
        obtain⟨i,hi'⟩:=List.getElem?_of_mem he;have hi'':es[i]? =some e:=by simpa using hi'
        have hlt:i<m.len:=by rw [<-m3];exact(Array.getElem?_eq_some_iff.1 hi'').1
        have:=f2 i e hi'';rw [hi1 i hlt]at this;simpa using this.symm
       refine hfin zv ?_ (by rw [hfe];rfl) (by rw [hfe];rfl);obtain⟨s0,hs0,hs1⟩:=hz0.sv hs;exact hs1 _ _ _ _ (Jl hT k2 z1 z2 hz hs0)
     ·cases he
    ·cases he
   ·cases he
  ·cases he
 ·cases he
theorem Mc {c d:Nat->DV} {n:Nat} (h:bT c 0 n=bT d 0 n):dS (fun j=> .d (c j)) 0 n=dS (fun j=> .d (d j)) 0 n:=by
 rw [sZ,sZ,h]
theorem FK (hT:kg P T) {t:TypeId} {ti:TI} {fresh:Nat} {an:iJ} {obs:List (Option (Option Ob))} {E:Eff} (hop:o.op= .makeMap t none) (he:yU T fresh an ti.d obs=some E) (hobs:obs=[h fresh])
  (fr:Fr B ρ F w) (hi:HI B ρ F w h):Good P B ρ F w h o a E.tv E.hd:=by
 unfold yU at he;split at he
 ·rename_i K V hd;simp at hobs;split at he
  ·rename_i tk tv _ _;have hfr:h fresh=none:=hobs.symm;have p:=Push.alloc w (.map #[] 0);have hρ:=hi.fresh fresh hfr;have hrun:(execOp a.eval o).run P w= .ok (.value (.map (some w.heap.size))) (w.alloc (.map #[] 0)):=by
    simp [execOp,hop,Instr.makeMap,newObj];rfl
   split at he
   ·split at he
    ·cases he;refine bI (p.gr fr (pl:= .blk w.heap.size 0 0) hρ) (p.fr fr hρ) (p.hi fr hi hfr ?_) hrun ⟨w.heap.size,0,0,ay _ _,rfl⟩;exact⟨w.heap.size,0,0, #[],fun _=>none,ay _ _,rfl,by rw [p.new];rfl,rfl,fun i hi=>absurd hi (cJ i),(fun _ _ _ e=>by cases e),(fun _ e=>by cases e),List.nodup_nil⟩
    ·cases he
   ·cases he;refine bI (p.gr fr (pl:= .blk w.heap.size 0 0) hρ) (p.fr fr hρ) (p.hi fr hi hfr ?_) hrun ⟨w.heap.size,0,0,ay _ _,rfl⟩;exact⟨w.heap.size,0,0, #[],ay _ _,rfl,by rw [p.new];rfl,rfl,fun i hi=>by simp at hi,fun i hi=>by simp at hi⟩
   ·cases he;refine bI (p.gr fr (pl:= .blk w.heap.size 0 0) hρ) (p.fr fr hρ) (p.hi fr hi hfr ?_) hrun ⟨w.heap.size,0,0,ay _ _,rfl⟩;exact⟨w.heap.size,0,0, #[],ay _ _,rfl,by rw [p.new];rfl,rfl,fun i hi=>by simp at hi,fun i hi=>by simp at hi⟩
  ·cases he
 ·cases he
theorem I8: ∀{ks:List KD} {ds:List DV},ax ks ds=true-> ∀agg n,Instr.sameBits (n+1) (eD agg (ds.map fT)) (eD agg (ds.map fT))=true\/(agg=false/\ds=[]):=by
 have one: ∀{ks:List KD} {ds:List DV},ax ks ds=true-> ∀n,∀d∈ds,Instr.sameBits n (fT d) (fT d)=true:=by
  intro ks;induction ks with
  |nil=>intro ds h n d hd;cases ds with
   |nil=>simp at hd
   |cons _ _=>simp [ax]at h
  |cons k ks ih=>
   intro ds h n d hd;cases ds with
   |nil=>simp at hd
   |cons x xs=>
    have hx: ∀n,Instr.sameBits n (fT x) (fT x)=true:=fun n=>by
     cases k<;>cases x<;>simp [ax]at h<;>cases n<;>simp [fT,Instr.sameBits,Us]
    have ht:ax ks xs=true:=by
     cases k<;>cases x<;>simp [ax]at h;·exact h.2
     ·exact h
     ·exact h
    rcases eh.1 hd with rfl|hd;·exact hx n
    ·exact ih ht n d hd
 intro ks ds h agg n;cases agg with
 |true=>
  left;simp only [eD,bt,Instr.sameBits,beq_self_eq_true,cP];have: ∀l:List Value,(∀v∈l,Instr.sameBits n v v=true)->(l.zip l).all (fun(x,y)=>Instr.sameBits n x y)=true:=by
   intro l;induction l with
   |nil=>simp
   |cons v l ih=>intro hh;simp [hh v (by simp),ih fun u hu=>hh u (by simp [hu])]
  refine this _ fun v hv=> ?_;obtain⟨d,hd,rfl⟩:=List.mem_map.1 hv;exact one h n d hd
 |false=>
  cases ds with
  |nil=>exact .inr ⟨rfl,rfl⟩
  |cons d ds=>left;simp [eD];exact one h _ d (by simp)
theorem wM: ∀{ks:List KD} {ds:List DV},ax ks ds=true->bO ρ F w (ds.map .d) (ds.map fT)
 |_,[],_=>trivial
 |[],_::_,h=>by simp [ax]at h
 |k::ks,d::ds,h=>by
  cases k with
  |b=>
   cases d<;>simp [ax]at h;exact⟨rfl,wM h⟩
  |s=>
   cases d<;>simp [ax]at h;exact⟨rfl,wM h⟩
  |i k=>
   cases d<;>simp [ax]at h;exact⟨rfl,wM h.2⟩
theorem tZ (hT:kg P T) {t:TypeId} {x y z:Operand} {ti:TI} {xa ya za:TV} {an:iJ} {obs:List (Option (Option Ob))} {E:Eff} (ht:eG P t ti) (hex:execOp a.eval o=(do Instr.mapUpdate t (a.eval x) (a.eval y) (a.eval z);pure .skip)) 
  (he:ol T an ti.d xa ya za obs=some E) (hc:All E.conds)
  (hobs:obs=(match xa with| .v (.one (.mp b))=>[b]|_=>[]).map h) (fr:Fr B ρ F w) (hi:HI B ρ F w h) (hx:bE ρ F w xa (a.eval x)) (hy:bE ρ F w ya (a.eval y)) (hz:bE ρ F w za (a.eval z)):Good P B ρ F w h o a E.tv E.hd:=by
 unfold ol at he;split at he
 ·rename_i K V hd;split at he
  ·rename_i b m hm;split at he
   ·rename_i tk tv kk kd hko;split at he
    ·rename_i len' key' val' ms;split at he
     ·rename_i vs;cases hb:(tq vs==tv.agg)with
      |false=>simp [hb]at he
      |true=>
       simp only [hb,bt]at he;cases he;obtain⟨⟨hkinds,hment,i,hbef,hcase,hkey',hval',hoth⟩,_⟩:=hc;obtain⟨rfl,hob⟩:=Gq hm;obtain⟨ks,rfl,k1,k2,k3,k4,k5,k6,k7,k8,k9,k10,k11,k12,k13⟩:=Gs hko;rw [hobs]at hob;simp at hob;obtain⟨k,base,cap,hk,hv⟩:=hx;obtain⟨ft,hi⟩:=hi;obtain⟨k',base',cap',es,m1,m0,m2,m3,m4,m5⟩:=hi.obj b _ hob;rw [hk]at m1;cases m1;have hky:=GK k11 k12 k4 hy;obtain⟨q,f1,f2⟩:=KP (ρ:=ρ) (F:=F) (w:=w) hT k1 k3 k13 k11 k7 m3 hkinds m5;have hu:=aL (w:=w) ht;rw [hd]at hu;have hg:(getObj k).run P w= .ok (.map es es.size) w:=by simp [getObj,Sem.run,m2]
       have hklt:k<w.heap.size:=(Array.getElem?_eq_some_iff.1 m2).1;have hset: ∀ob',(setObj k ob').run P w= .ok () {w with heap:=w.heap.setIfInBounds k ob'}:=fun ob'=>by
        simp only [setObj,Sem.run,m2]
       have pt: ∀ob',Put w {w with heap:=w.heap.setIfInBounds k ob'} k:=fun ob'=> ⟨by simp,fun j hj=>by simp [eI,Ne.symm hj],rfl,rfl,⟨rfl,trivial⟩⟩;have hblk:=hi.blk b _ k hob m0;have hone:tk.agg=false->kd.length=1:=fun hag=>by rw [eu k11];exact ru k3 k1 hag
       have hkA: ∀W:World,rC ρ F W m.kagg m.ksz (fun j=> .d (key' i j)) (eD tk.agg (kd.map fT)):=fun W=>by
        have hvr:=wM (ρ:=ρ) (F:=F) (w:=W) k11;cases hag:tk.agg with
        |true=>exact⟨.agg (kd.map .d),by rw [sZ,hkey',k7,hag];rfl,kd.map fT,rfl,hvr⟩
        |false=>
         have hl:=hone hag
         match kd,hl,hkey',hvr with
         |[d],_,hkey',hvr=>exact⟨.one (.d d),by rw [sZ,hkey',k7,hag];rfl,hvr.1⟩
       have hgr: ∀ob',Gr ρ F w ρ F {w with heap:=w.heap.setIfInBounds k ob'}:=fun ob'=>(pt ob').gr hblk.2.1;have hvA: ∀ob',rC ρ F {w with heap:=w.heap.setIfInBounds k ob'} m.vagg m.vsz (val' i) (a.eval z):=fun ob'=>by
        have hb':tq vs=tv.agg:=by simpa using hb
        refine⟨vs, ?_,fB.gr (hgr ob') hz⟩;rw [hval',k8,<-hb'];cases vs<;>rfl
       have hold: ∀ob' i' e,es[i']? =some e->i'≠i->rC ρ F {w with heap:=w.heap.setIfInBounds k ob'} m.kagg m.ksz (fun j=> .d (key' i' j)) e.key/\rC ρ F {w with heap:=w.heap.setIfInBounds k ob'} m.vagg m.vsz (val' i') e.val/\e.born=i':=fun ob' i' e he hne=>by
        have hlt:i'<m.len:=by rw [<-m3];exact(Array.getElem?_eq_some_iff.1 he).1
        obtain⟨e',e1,e2,e3,e4⟩:=m5 i' hlt;rw [he]at e1;cases e1;obtain⟨o1,o2⟩:=hoth i' hlt hne;refine⟨rC.keep (hgr ob') ?_,rC.keep (hgr ob') ?_,e2⟩;·unfold rC;rw [Mc o1];exact e3
        ·unfold rC;rw [o2];exact e4
       have finish: ∀es':Array MapEntry,es'.size=len'->(execOp a.eval o).run P w= .ok .skip {w with heap:=w.heap.setIfInBounds k (.map es' es'.size)}->
         (∀i' e,es'[i']? =some e->(i'=i/\e.born=i/\e.key=eD tk.agg (kd.map fT)/\e.val=a.eval z)\/(i'≠i/\ ∃e0,es[i']? =some e0/\e0.key=e.key/\e0.val=e.val/\e0.born=e.born))->
         Good P B ρ F w h o a (.eB []) [(b,some (.map {m with len:=len',key:=key',val:=val',ms:=ms}))]:=by
        intro es' hsz hrun hent;refine oF (hgr _) ((pt _).fr fr hblk.2.2) ⟨_,(pt _).hi fr hi hob m0 (fun _ h=>h) ⟨k,base,cap,es',hk,m0,by simp [hklt],hsz,hment,fun i' hi'=> ?_⟩⟩ hrun;have hi'':i'<es'.size:=by rw [hsz];exact hi'
        have hg':=eR hi'';rcases hent i' _ hg' with⟨rfl,q1,q2,q3⟩|⟨q1,e0,q2,q3,q4,q5⟩;·exact⟨_,hg',q1,by rw [q2];exact hkA _,by rw [q3];exact hvA _⟩
        ·obtain⟨r1,r2,r3⟩:=hold (.map es' es'.size) i' e0 q2 q1;exact⟨_,hg',by rw [<-q5];exact r3,by rw [<-q3];exact r1,by rw [<-q4];exact r2⟩
       have hck:=run_checkKey (w:=w) hT (em:=false) k1 k3 k13 k11;rcases hcase with⟨hil,heq,rfl⟩|⟨rfl,rfl⟩
       ·obtain⟨e,e1,e2,⟨s',e3,e3'⟩,_⟩:=m5 i hil;have hke:e.key=eD tk.agg (kd.map fT):=by
         rw [sZ,k7]at e3;have:=Fx (hkinds i hil) e3 e3';rw [this,G7 heq]
        have hfe:=uT (q:=q) (es:=es.toList) (i:=0) (j:=i) (e:=e) (by simpa using e1) (by have:=f2 i e e1;rw [heq]at this;simpa using this.symm)
         (fun j' e' hj he'=>by have:=f2 j' e' (by simpa using he');rw [hbef j' hj]at this;simpa using this.symm)
        rw [cC]at hfe;have hsb:Instr.sameBits 10000 (eD tk.agg (kd.map fT)) (eD tk.agg (kd.map fT))=true:=by
         rcases I8 k11 tk.agg 9999 with q|⟨q1,q2⟩;·exact q
         ·have:=hone q1;rw [q2]at this;simp at this
        refine finish (es.modify i fun e=>{e with key:=eD tk.agg (kd.map fT),val:=a.eval z}) (by simp [m3]) ?_ fun i' e' he'=> ?_
        ·rw [hex];simp only [Instr.mapUpdate,eC,hu,eA,hv,hg,hky,hck,f1,hfe,e1,Option.map_some,Option.getD_some,hke,Instr.keyThatStays,hsb,if_true,Sem.run_pure,hset];simp
        ·rw [Array.getElem?_modify]at he';split at he'
         ·rename_i hii;subst hii;rw [e1]at he';simp at he';exact .inl ⟨rfl,by rw [<-he'];exact e2,by rw [<-he'],by rw [<-he']⟩
         ·rename_i hii;exact .inr ⟨Ne.symm hii,e',he',rfl,rfl,rfl⟩
       ·have hfe:kF q es.toList 0=none:=oW fun e he=>by
         obtain⟨j,hj⟩:=List.getElem?_of_mem he;have hj':es[j]? =some e:=by simpa using hj
         have hlt:j<m.len:=by rw [<-m3];exact(Array.getElem?_eq_some_iff.1 hj').1
         have:=f2 j e hj';rw [hbef j hlt]at this;simpa using this.symm
        refine finish (es.push {key:=eD tk.agg (kd.map fT),val:=a.eval z,born:=es.size}) (by simp [m3]) ?_ fun i' e' he'=> ?_
        ·rw [hex];simp only [Instr.mapUpdate,eC,hu,eA,hv,hg,hky,hck,f1,hfe,hset,Sem.run_pure];simp
        ·rw [eK]at he';split at he'
         ·rename_i hii;cases he';exact .inl ⟨by rw [hii,m3],by simp [m3],rfl,rfl⟩
         ·rename_i hii;have:i'<es.size:=(Array.getElem?_eq_some_iff.1 he').1;exact .inr ⟨by omega,e',he',rfl,rfl,rfl⟩
     ·cases he
    ·cases he
   ·cases he
  ·cases he
 ·cases he
end
theorem yo (n:Int): ∀(l:List (Int × List Int)),(∃i,i<l.length/\(l.getD i default).1=n/\(∀j,j<i->(l.getD j default).1≠n)/\oK n l=(l.getD i default).2)\/((∀i,i<l.length->(l.getD i default).1≠n)/\oK n l=[])
 |[]=> .inr ⟨fun i hi=>absurd hi (cJ i),rfl⟩
 |(k,v)::l=>by
  by_cases e:n=k
  ·left;refine⟨0,by simp,by simp [e],fun j hj=>absurd hj (cJ j), ?_⟩;simp [oK,e]
  ·have hg:oK n ((k,v)::l)=oK n l:=by simp [oK,e]
   rw [hg];rcases yo n l with⟨i,h1,h2,h3,h4⟩|⟨h1,h2⟩
   ·left;refine⟨i+1,by simp;omega,by simpa using h2,fun j hj=> ?_,by simpa using h4⟩;cases j with
    |zero=>simp;exact Ne.symm e
    |succ j=>simpa using h3 j (by omega)
   ·right;refine⟨fun i hi=> ?_,h2⟩;cases i with
    |zero=>simp;exact Ne.symm e
    |succ i=>simpa using h1 i (by simpa using hi)
theorem oH {l:List (Int × List Int)} (h:(l.map (·.1)).Nodup) {i j:Nat} (hi:i<l.length) (hj:j<l.length) (e:(l.getD i default).1=(l.getD j default).1):i=j:=by
 have h1:(l.map (·.1))[i]'(by simpa using hi)=(l.map (·.1))[j]'(by simpa using hj):=by
  simp only [List.getElem_map];simpa [cS,hi,hj]using e
 exact(List.getElem_inj h).1 h1
theorem Ed (n:Int) (v:List Int): ∀(l:List (Int × List Int)),(∃i,i<l.length/\(l.getD i default).1=n/\(∀j,j<i->(l.getD j default).1≠n)/\(mH n v l).length=l.length/\ ∀j,(mH n v l).getD j default=if j=i then(n,v)else l.getD j default)\/
  ((∀i,i<l.length->(l.getD i default).1≠n)/\mH n v l=l++[(n,v)])
 |[]=> .inr ⟨fun i hi=>absurd hi (cJ i),rfl⟩
 |(k,u)::l=>by
  by_cases e:n=k
  ·left;refine⟨0,by simp,by simp [e],fun j hj=>absurd hj (cJ j),by simp [mH,e],fun j=> ?_⟩;cases j<;>simp [mH,e]
  ·have hg:mH n v ((k,u)::l)=(k,u)::mH n v l:=by simp [mH,e]
   rw [hg];rcases Ed n v l with⟨i,h1,h2,h3,h4,h5⟩|⟨h1,h2⟩
   ·left;refine⟨i+1,by simp;omega,by simpa using h2,fun j hj=> ?_,by simp [h4],fun j=> ?_⟩
    ·cases j with
     |zero=>simp;exact Ne.symm e
     |succ j=>simpa using h3 j (by omega)
    ·cases j with
     |zero=>simp
     |succ j=>simpa using h5 j
   ·right;refine⟨fun i hi=> ?_,by rw [h2];rfl⟩;cases i with
    |zero=>simp;exact Ne.symm e
    |succ i=>simpa using h1 i (by simpa using hi)
theorem Jy {n:Int} {v:List Int} {x:Int}: ∀{l:List (Int × List Int)},x∈(mH n v l).map (·.1)->x=n\/x∈l.map (·.1)
 |[],h=>by simp [mH]at h;exact .inl h
 |(k,u)::l,h=>by
  by_cases e:n=k;·right;simpa [mH,e]using h
  ·have hg:mH n v ((k,u)::l)=(k,u)::mH n v l:=by simp [mH,e]
   rw [hg,cL,eh]at h;rcases h with h|h;·right;simp [h]
   ·rcases Jy h with h|h
    ·exact .inl h
    ·right;rw [cL];exact cm _ h
theorem xY {n:Int} {v:List Int}: ∀{l:List (Int × List Int)},(l.map (·.1)).Nodup->((mH n v l).map (·.1)).Nodup
 |[],_=>by simp [mH]
 |(k,u)::l,h=>by
  by_cases e:n=k;·simpa [mH,e]using h
  ·have hg:mH n v ((k,u)::l)=(k,u)::mH n v l:=by simp [mH,e]
   rw [hg,cL,cA];rw [cL,cA]at h;refine⟨fun hm=> ?_,xY h.2⟩;rcases Jy hm with q|q;·exact e q.symm
   ·exact h.1 q
section
variable {P:Program} {B:Base} {ρ ρ':Nat->Option Pl} {F F':Nat->Prop} {w w':World} {h:Hp} {o:Oper} {a:Act} {T:List (Nat × TI)}
theorem Nh {K V K' V' E:TypeId} (h:Yx T K V K' V' E=true): ∃tk tv te,get T K=some tk/\get T V=some tv/\get T E=some te/\K=K'/\V=V'/\tk.d= .int .i64/\tk.size=1/\tk.agg=false/\tv.agg=false/\te.size=1/\
  ∃e f,nY tv.zero=some [.sl (some false) e 0 f]:=by
 unfold Yx at h;split at h
 ·rename_i tk tv te h1 h2 h3;simp only [cd,c_]at h;obtain⟨⟨⟨⟨⟨⟨⟨⟨⟨b1,b2⟩,b3⟩,b4⟩,b5⟩,b6⟩,b7⟩,b8⟩,b9⟩,b10⟩:=h;refine⟨tk,tv,te,h1,h2,h3,bv b1,bv b2, ?_,bv b4,b8,b7,bv b6, ?_⟩
  ·split at b3
   ·rename_i e;exact e
   ·cases b3
  ·split at b10
   ·rename_i e f q;exact⟨e,f,q⟩
   ·cases b10
 ·cases h
def gq (n:Int) (e:MapEntry):Bool:=match e.key with| .int _ m=>decide (n=m)|_=>false
theorem Gm (hT:kg P T) {K:TypeId} {tk:TI} {n:Int} {es:Array MapEntry} {l:List (Int × List Int)} (hk:get T K=some tk) (hd:tk.d= .int .i64) (hs:tk.size=1) (ha:tk.agg=false) (hes:es.size=l.length)
  (hent: ∀i,i<l.length-> ∃e,es[i]? =some e/\e.key= .int .i64 (l.getD i default).1):
  (Instr.findKey K (.int .i64 n) es.toList).run P w= .ok (kF (gq n) es.toList 0) w:=by
 have hf:flatK T 8 K=some [.i .i64]:=by
  unfold flatK;rw [hk];simp only [hd];simp [hs]
 have hkey: ∀e∈es.toList,∃m,e.key= .int .i64 m:=fun e he=>by
  obtain⟨i,hi⟩:=List.getElem?_of_mem he;have hi':es[i]? =some e:=by simpa using hi
  have hlt:i<l.length:=by rw [<-hes];exact(Array.getElem?_eq_some_iff.1 hi').1
  obtain⟨e',e1,e2⟩:=hent i hlt;rw [hi']at e1;cases e1;exact⟨_,e2⟩
 refine run_findKey (hT.get hk) (fun e he=> ?_) (.inl fun e he=> ?_)
 ·obtain⟨m,hm⟩:=hkey e he;have h2:=(oN hT 8 10000 (by omega) K _ tk hf hk).2 w [.int .i64 n] [.int .i64 m] (decide (n=m) && true) (by simp [ax]) (by simp [ax]) (by simp [iy,NC]);rw [ha]at h2;rw [show gq n e=(decide (n=m) && true) by simp [gq,hm],hm];exact h2
 ·obtain⟨m,hm⟩:=hkey e he;rw [show gq n e=decide (n=m) by simp [gq,hm],hm,hd];simp [Instr.sameNow,j6]
theorem xG (hT:kg P T) {K:TypeId} {tk:TI} {n:Int} (hk:get T K=some tk) (hd:tk.d= .int .i64) (em:Bool):(Instr.checkKey em 10000 K (.int .i64 n)).run P w= .ok () w:=by
 have hu:=aL (w:=w) (hT.get hk);rw [hd]at hu;rw [Instr.checkKey,eC,hu];rfl
theorem Jh (hT:kg P T) {t:TypeId} {x y:Operand} {ok:Bool} {c:Nat} {row:List Int} {ti:TI} {xa ya:TV} {obs:List (Option (Option Ob))} {E:Eff} (ht:eG P t ti) (hop:o.op= .lookup t x y ok) (he:D8 T c row ti.d xa ya ok obs=some E) (hc:All E.conds)
  (hobs:obs=(foot (.gtk c row) 0 (.lookup t x y ok) [xa,ya]).map h) (fr:Fr B ρ F w) (hi:HI B ρ F w h) (hx:bE ρ F w xa (a.eval x)) (hy:bE ρ F w ya (a.eval y)):Good P B ρ F w h o a E.tv E.hd:=by
 obtain⟨ft,hi⟩:=hi;unfold D8 at he;split at he
 ·rename_i K V b n K' V' Et l hd;cases hb:Yx T K V K' V' Et with
  |false=>simp [hb]at he
  |true=>
   simp only [hb,bt]at he;cases he;obtain⟨hrow,_⟩:=hc;obtain⟨tk,tv,te,k1,k2,k3,rfl,rfl,d1,d2,d3,d4,d5,ez,fz,d6⟩:=Nh hb;simp [foot]at hobs;obtain⟨hob,hcn⟩:=hobs;obtain⟨k,base,cap,hk,hv⟩:=hx;have hy:a.eval y= .int .i64 n:=hy;obtain⟨k',base',cap',es,rb,m1,m0,m2,m3,m4,m5,m6,m7⟩:=hi.obj b _ hob.symm;rw [hk]at m1;cases m1;have hf:=Gm (w:=w) hT (n:=n) (es:=es) (l:=l) k1 d1 d2 d3 m3 (fun i hi=>by obtain⟨e,e1,_,e3,_⟩:=m4 i hi;exact⟨e,e1,e3⟩);obtain⟨zv,z1,z2⟩:=oG (w:=w) (hT.get k2);have hrun:=Ct (w:=w) ht hd (hT.get k2) hop hv m2 hy (fun em=>xG hT k1 d1 em) hf z1;simp only [Bool.false_eq_true,if_false]at hrun;have hzv:zv= .slice none 0 0:=by
    obtain⟨ad,cp,g1,_,g2,g3,_⟩:=(Jl (ρ:=ρ) (F:=F) (w:=w) hT k2 z1 z2 d6 (s:= .one (.d (.sl (some false) ez 0 fz))) (by rw [d4];rfl):bG F w (.sl (some false) ez 0 fz) zv);have:=g2 rfl;subst this;rw [g1,(g3 rfl).2]
   have hρc:=hi.fresh c hcn.symm;have grn: ∀p,Gr ρ F w (bN ρ c p) F w:=fun p=> ⟨aS hρc,fun _ h=>h,fun _ _=>rfl⟩;have frn: ∀p,Fr B (bN ρ c p) F w:=fun p=>{fr with rho:=fun b' p' e=>aS hρc b' p' (fr.rho b' p' e)};rcases yo n l with⟨i,i1,i2,i3,i4⟩|⟨i1,i2⟩
   ·obtain⟨e,e1,e2,e3,e4⟩:=m4 i i1;have e4:fC F w (ft b) (rb i) (MF Et (l.getD i default).2) e.val:=e4;rw [<-i4,<-hrow]at e4;have hfe:=uT (q:=gq n) (es:=es.toList) (i:=0) (j:=i) (e:=e) (by simpa using e1) (by simp only [gq,e3,i2,decide_true])
     (fun j' e' hj he'=>by
      obtain⟨e'',g1,_,g3,_⟩:=m4 j' (by omega);have:es[j']? =some e':=by simpa using he'
      rw [this]at g1;cases g1;simp only [gq,g3];exact bz (Ne.symm (i3 j' hj)))
    rw [hfe]at hrun;have hrun:(execOp a.eval o).run P w= .ok (.value e.val) w:=hrun;have rest: ∀(p:Pl) (S1:Nat->Prop),(∀q,S1 q↔ft b q/\rb i≠some q)->dK (bN ρ c p) F w (.own c false row.length) e.val->ig (bN ρ c p) F w S1 b (.gm K V Et l (some (n, .own c false row.length))):=by
     intro p S1 hS1 hcu;refine⟨k,base,cap,es,rb,aS hρc _ _ hk,(hS1 k).2 ⟨m0,m6 i⟩,m2,m3,fun i' hi'=> ?_,m5,m6,m7⟩;obtain⟨e',g1,g2,g3,g4⟩:=m4 i' hi';refine⟨e',g1,g2,g3, ?_⟩;unfold uS;simp only;split
     ·rename_i q;have:=oH m7 hi' i1 (q.trans i2.symm);subst this;rw [e1]at g1;cases g1;exact hcu
     ·rename_i hne;have g4:fC F w (ft b) (rb i') (MF Et (l.getD i' default).2) e'.val:=g4;rcases g4 with g4|⟨q,bq,cq,q1,q2,q3,q4⟩
      ·exact .inl g4
      ·exact .inr ⟨q,bq,cq,q1,(hS1 q).2 ⟨q2,fun eq=>hne (by rw [m5 _ _ _ q1 eq];exact i2)⟩,q3,q4⟩
    rcases e4 with⟨n0,hu0⟩|⟨q,bq,cq,q1,q2,q3,q4⟩
    ·have hcu:dK (bN ρ c .nil) F w (.own c false row.length) e.val:= .inr ⟨rfl,ay _ _,n0,hu0⟩;exact bI (grn .nil) (frn .nil) ⟨_,mg.split (S1:=fun q=>ft b q/\rb i≠some q) (S2:=fun _=>False) fr hi hob.symm hcn.symm (fun _ h=>h.1) (fun _ h=>h.elim) (fun _ _ h=>h) (rest _ _ (fun _=>Iff.rfl) hcu) (.inl ⟨ay _ _,n0⟩)⟩ hrun hcu
    ·have hcu:dK (bN ρ c (.blk q bq cq)) F w (.own c false row.length) e.val:= .inl ⟨q,bq,cq,ay _ _,q3⟩;exact bI (grn _) (frn _) ⟨_,mg.split (S1:=fun q'=>ft b q'/\rb i≠some q') (S2:=fun q'=>q'=q) fr hi hob.symm hcn.symm (fun _ h=>h.1) (fun q' h=>h ▸ q2) (fun q' h1 h2=>h1.2 (by rw [q1,h2])) (rest _ _ (fun _=>Iff.rfl) hcu) (.inr ⟨q,bq,cq,ay _ _,rfl,q4⟩)⟩ hrun hcu
   ·have hfe:kF (gq n) es.toList 0=none:=oW fun e he=>by
     obtain⟨j,hj⟩:=List.getElem?_of_mem he;have hj':es[j]? =some e:=by simpa using hj
     have hlt:j<l.length:=by rw [<-m3];exact(Array.getElem?_eq_some_iff.1 hj').1
     obtain⟨e',g1,_,g3,_⟩:=m4 j hlt;rw [hj']at g1;cases g1;simp only [gq,g3];exact bz (Ne.symm (i1 j hlt))
    rw [hfe]at hrun;have hrun:(execOp a.eval o).run P w= .ok (.value zv) w:=hrun;rw [hzv]at hrun;have hr0:row.length=0:=by rw [hrow,i2];rfl
    have hcu:dK (bN ρ c .nil) F w (.own c false row.length) (.slice none 0 0):= .inr ⟨rfl,ay _ _,hr0,rfl⟩;refine bI (grn .nil) (frn .nil) ⟨_,mg.split (S1:=ft b) (S2:=fun _=>False) fr hi hob.symm hcn.symm (fun _ h=>h) (fun _ h=>h.elim) (fun _ _ h=>h) ?_ (.inl ⟨ay _ _,hr0⟩)⟩ hrun hcu;refine⟨k,base,cap,es,rb,aS hρc _ _ hk,m0,m2,m3,fun i' hi'=> ?_,m5,m6,m7⟩;obtain⟨e',g1,g2,g3,g4⟩:=m4 i' hi';refine⟨e',g1,g2,g3, ?_⟩;unfold uS;simp only;rw [ce (i1 i' hi')];exact g4
 ·cases he
theorem LP (hT:kg P T) {t:TypeId} {x y z:Operand} {row:List Int} {ti:TI} {xa ya za:TV} {obs:List (Option (Option Ob))} {E:Eff} (ht:eG P t ti) (hex:execOp a.eval o=(do Instr.mapUpdate t (a.eval x) (a.eval y) (a.eval z);pure .skip))
  (he:Ih T row ti.d xa ya za obs=some E) (hc:All E.conds) (hobs:obs=(foot (.gput row) 0 (.mapUpdate t x y z) [xa,ya,za]).map h) (fr:Fr B ρ F w) (hi:HI B ρ F w h) (hx:bE ρ F w xa (a.eval x)) (hy:bE ρ F w ya (a.eval y)) (hz:bE ρ F w za (a.eval z)):
  Good P B ρ F w h o a E.tv E.hd:=by
 classical
 obtain⟨ft,hi⟩:=hi;unfold Ih at he;split at he
 ·rename_i K V b n c nn m K' V' Et l ov E1 esz1 n1 el1 hd;cases hb:(Yx T K V K' V' Et && Nat.beq E1 Et && Nat.beq esz1 1 && !(Nat.beq b c))with
  |false=>simp [hb]at he
  |true=>
   simp only [hb,bt]at he;cases he;simp only [cd,c_]at hb;obtain⟨tk,tv,te,k1,k2,k3,rfl,rfl,d1,d2,d3,d4,d5,ez,fz,d6⟩:=Nh hb.1.1.1;have e1:=bv hb.1.1.2;have e2:=bv hb.1.2;have hbc:b≠c:=Nat.ne_of_beq_eq_false hb.2;subst e1;subst e2;obtain⟨hmn,hn1,heq,hov,_⟩:=hc;subst hmn;subst hn1;simp [foot]at hobs;obtain⟨hob,hoc⟩:=hobs;obtain⟨k,base,cap,hk,hv⟩:=hx;have hy:a.eval y= .int .i64 n:=hy;obtain⟨k',base',cap',es,rb,m1,m0,m2,m3,m4,m5,m6,m7⟩:=hi.obj b _ hob.symm;rw [hk]at m1;cases m1;have hf:=Gm (w:=w) hT (n:=n) (es:=es) (l:=l) k1 d1 d2 d3 m3 (fun i hi=>by obtain⟨e,e1,_,e3,_⟩:=m4 i hi;exact⟨e,e1,e3⟩);have hu:=aL (w:=w) ht;rw [hd]at hu;have hg:(getObj k).run P w= .ok (.map es es.size) w:=by simp [getObj,Sem.run,m2]
   have hklt:k<w.heap.size:=(Array.getElem?_eq_some_iff.1 m2).1;have hset: ∀ob',(setObj k ob').run P w= .ok () {w with heap:=w.heap.setIfInBounds k ob'}:=fun ob'=>by
    simp only [setObj,Sem.run,m2]
   have pt: ∀ob',Put w {w with heap:=w.heap.setIfInBounds k ob'} k:=fun ob'=> ⟨by simp,fun j hj=>by simp [eI,Ne.symm hj],rfl,rfl,⟨rfl,trivial⟩⟩;have hblk:=hi.blk b _ k hob.symm m0;have hgr: ∀ob',Gr ρ F w ρ F {w with heap:=w.heap.setIfInBounds k ob'}:=fun ob'=>(pt ob').gr hblk.2.1;have hck:=xG (w:=w) hT (n:=n) k1 d1 false;have hcoth: ∀q,ft c q->q≠k:=fun q hq e=>hbc (hi.dis b c _ _ k hob.symm hoc.symm m0 (e ▸ hq));obtain⟨nq,hnq⟩: ∃nq:Option Nat,(nq=none/\row.length=0/\a.eval z= .slice none 0 0)\/ ∃q bq cq,nq=some q/\ft c q/\a.eval z= .slice (some ⟨q,bq,none⟩) row.length cq/\oP F w q bq cq E1 1 row.length (zm row):=by
    have rw2: ∀{q bq cq:Nat},oP F w q bq cq E1 1 row.length el1->oP F w q bq cq E1 1 row.length (zm row):=fun⟨vs,h1,h2,h3,h4,h5⟩=> ⟨vs,h1,h2,h3,h4,fun i hi j hj=>by rw [<-heq i hi j hj];exact h5 i hi j hj⟩;rcases hz with⟨q,bq,cq,hq,hv'⟩|⟨_,hq,h0',hv'⟩
    ·rcases hi.obj c _ hoc.symm with⟨g0,_⟩|⟨q',bq',cq',g0,g00,g1⟩
     ·rw [hq]at g0;cases g0
     ·rw [hq]at g0;cases g0;exact⟨some q, .inr ⟨q,bq,cq,rfl,g00,hv',rw2 g1⟩⟩
    ·exact⟨none, .inl ⟨rfl,h0',hv'⟩⟩
   have nqc: ∀q,nq=some q->ft c q:=fun q e=>by
    rcases hnq with⟨e',_⟩|⟨q',_,_,e',hf,_⟩;·rw [e']at e;cases e
    ·rw [e']at e;cases e;exact hf
   have newV: ∀ob',fC F {w with heap:=w.heap.setIfInBounds k ob'} (fun q=>ft b q\/ft c q) nq (MF E1 row) (a.eval z):=fun ob'=>by
    rcases hnq with⟨_,x1,x2⟩|⟨q,bq,cq,e,hf,x2,x3⟩;·exact .inl ⟨x1,x2⟩
    ·exact .inr ⟨q,bq,cq,e, .inr hf,x2,x3.keep (hgr ob') ((pt ob').old q (hcoth q hf))⟩
   have oldV: ∀ob' (rb':Nat->Option Nat) i e,i<l.length->es[i]? =some e->(l.getD i default).1≠n->(∀q,rb i=some q->ft b q->rb' i=some q)->
     e.born=i/\e.key= .int .i64 (l.getD i default).1/\fC F {w with heap:=w.heap.setIfInBounds k ob'} (fun q=>ft b q\/ft c q) (rb' i) (MF E1 (l.getD i default).2) e.val:=fun ob' rb' i e hi' he hne hrb=>by
    obtain⟨e',g1,g2,g3,g4⟩:=m4 i hi';rw [he]at g1;cases g1;refine⟨g2,g3, ?_⟩;have g5:fC F w (ft b) (rb i) (MF E1 (l.getD i default).2) e.val:=by
     unfold uS at g4;split at g4;·exact g4
     ·rename_i n0 c0;have:=hov n0 c0 rfl;subst this;rw [ce hne]at g4;exact g4
    rcases g5 with g5|⟨q,bq,cq,q1,q2,q3,q4⟩;·exact .inl g5
    ·exact .inr ⟨q,bq,cq,hrb q q1 q2, .inl q2,q3,q4.keep (hgr ob') ((pt ob').old q fun e'=>m6 i (by rw [q1,e']))⟩
   rcases Ed n row l with⟨i,i1,i2,i3,i4,i5⟩|⟨i1,i2⟩
   ·obtain⟨e,e1,e2,e3,_⟩:=m4 i i1;have hfe:=uT (q:=gq n) (es:=es.toList) (i:=0) (j:=i) (e:=e) (by simpa using e1) (by simp only [gq,e3,i2,decide_true])
     (fun j' e' hj he'=>by
      obtain⟨e'',g1,_,g3,_⟩:=m4 j' (by omega);have:es[j']? =some e':=by simpa using he'
      rw [this]at g1;cases g1;simp only [gq,g3];exact bz (Ne.symm (i3 j' hj)))
    rw [cC]at hfe;have hsb:Instr.sameBits 10000 (.int .i64 n:Value) (.int .i64 n)=true:=by simp [Instr.sameBits]
    have hke:e.key= .int .i64 n:=by rw [e3,i2]
    have hrun:(execOp a.eval o).run P w= .ok .skip {w with heap:=w.heap.setIfInBounds k (.map (es.modify i fun e=>{e with key:= .int .i64 n,val:=a.eval z}) (es.modify i fun e=>{e with key:= .int .i64 n,val:=a.eval z}).size)}:=by
     rw [hex];simp only [Instr.mapUpdate,eC,hu,eA,hv,hg,hy,hck,hf,hfe,e1,Option.map_some,Option.getD_some,hke,Instr.keyThatStays,hsb,if_true,Sem.run_pure,hset];simp
    let rb':Nat->Option Nat:=fun j=>if j=i then nq else(match rb j with|some q=>if ft b q then some q else none|none=>none)
    have hrb0: ∀j q,j≠i->(rb' j=some q↔rb j=some q/\ft b q):=fun j q hne=>by
     show(if j=i then nq else _)=some q↔_;rw [ce hne];cases rb j with
     |none=>simp
     |some q'=>
      simp only [Option.some.injEq];split
      ·rename_i hf;constructor
       ·rintro e;cases e;exact⟨rfl,hf⟩
       ·rintro ⟨e,_⟩;rw [e]
      ·rename_i hf;constructor
       ·intro e;cases e
       ·rintro ⟨e,hf'⟩;subst e;exact absurd hf' hf
    have hrbi:rb' i=nq:=ci rfl;refine oF (hgr _) ((pt _).fr fr hblk.2.2) ⟨_,mg.merge (S:=fun q=>ft b q\/ft c q) fr hi hob.symm hoc.symm hbc (pt _) m0 (fun _ h=>h) ?_⟩ hrun;refine⟨k,base,cap,es.modify i fun e=>{e with key:= .int .i64 n,val:=a.eval z},rb',hk, .inl m0,by simp [hklt],by simp [m3,i4],fun j hj=> ?_,fun j1 j2 q q1 q2=> ?_,fun j e=> ?_,xY m7⟩
    ·rw [i4]at hj;by_cases hji:j=i
     ·subst hji;refine⟨{e with key:= .int .i64 n,val:=a.eval z},by rw [Array.getElem?_modify,ci rfl,e1];rfl,e2,by rw [i5,ci rfl], ?_⟩;show fC F _ _ (rb' j) (MF E1 ((mH n row l).getD j default).2) (a.eval z);rw [i5,ci rfl,hrbi];exact newV _
     ·obtain⟨e',g1,g2,g3,g4⟩:=m4 j hj;have hne:(l.getD j default).1≠n:=fun q=>hji (oH m7 hj i1 (q.trans i2.symm));obtain⟨r1,r2,r3⟩:=oldV (.map (es.modify i fun e=>{e with key:= .int .i64 n,val:=a.eval z}) (es.modify i fun e=>{e with key:= .int .i64 n,val:=a.eval z}).size) rb' j e' hj g1 hne (fun q q1 q2=>(hrb0 j q hji).2 ⟨q1,q2⟩);refine⟨e',by rw [Array.getElem?_modify,ce (Ne.symm hji)];exact g1,r1,by rw [i5,ce hji];exact r2, ?_⟩;show fC F _ _ (rb' j) (MF E1 ((mH n row l).getD j default).2) e'.val;rw [i5,ce hji];exact r3
    ·by_cases c1:j1=i<;>by_cases c2:j2=i
     ·rw [c1,c2]
     ·rw [c1,hrbi]at q1;have:=(hrb0 _ _ c2).1 q2;exact absurd (hi.dis b c _ _ q hob.symm hoc.symm this.2 (nqc q q1)) hbc
     ·rw [c2,hrbi]at q2;have:=(hrb0 _ _ c1).1 q1;exact absurd (hi.dis b c _ _ q hob.symm hoc.symm this.2 (nqc q q2)) hbc
     ·exact m5 _ _ _ ((hrb0 _ _ c1).1 q1).1 ((hrb0 _ _ c2).1 q2).1
    ·by_cases c1:j=i
     ·rw [c1,hrbi]at e;exact hcoth k (nqc k e) rfl
     ·exact m6 _ ((hrb0 _ _ c1).1 e).1
   ·have hfe:kF (gq n) es.toList 0=none:=oW fun e he=>by
     obtain⟨j,hj⟩:=List.getElem?_of_mem he;have hj':es[j]? =some e:=by simpa using hj
     have hlt:j<l.length:=by rw [<-m3];exact(Array.getElem?_eq_some_iff.1 hj').1
     obtain⟨e',g1,_,g3,_⟩:=m4 j hlt;rw [hj']at g1;cases g1;simp only [gq,g3];exact bz (Ne.symm (i1 j hlt))
    have hrun:(execOp a.eval o).run P w= .ok .skip {w with heap:=w.heap.setIfInBounds k (.map (es.push {key:= .int .i64 n,val:=a.eval z,born:=es.size}) (es.push {key:= .int .i64 n,val:=a.eval z,born:=es.size}).size)}:=by
     rw [hex];simp only [Instr.mapUpdate,eC,hu,eA,hv,hg,hy,hck,hf,hfe,hset,Sem.run_pure];simp
    let rb':Nat->Option Nat:=fun j=>if j=l.length then nq else(match rb j with|some q=>if ft b q then some q else none|none=>none)
    have hrb0: ∀j q,j≠l.length->(rb' j=some q↔rb j=some q/\ft b q):=fun j q hne=>by
     show(if j=l.length then nq else _)=some q↔_;rw [ce hne];cases rb j with
     |none=>simp
     |some q'=>
      simp only [Option.some.injEq];split
      ·rename_i hf;constructor
       ·rintro e;cases e;exact⟨rfl,hf⟩
       ·rintro ⟨e,_⟩;rw [e]
      ·rename_i hf;constructor
       ·intro e;cases e
       ·rintro ⟨e,hf'⟩;subst e;exact absurd hf' hf
    have hrbi:rb' l.length=nq:=ci rfl;refine oF (hgr _) ((pt _).fr fr hblk.2.2) ⟨_,mg.merge (S:=fun q=>ft b q\/ft c q) fr hi hob.symm hoc.symm hbc (pt _) m0 (fun _ h=>h) ?_⟩ hrun;have gl:(mH n row l).length=l.length+1:=by rw [i2];simp
    have g0:(mH n row l).getD l.length default=(n,row):=by rw [i2];simp
    have g1': ∀j,j<l.length->(mH n row l).getD j default=l.getD j default:=fun j hj=>by
     rw [i2,cS,cS,cT hj]
    refine⟨k,base,cap,es.push {key:= .int .i64 n,val:=a.eval z,born:=es.size},rb',hk, .inl m0,by simp [hklt],by simp [m3,gl],fun j hj=> ?_,fun j1 j2 q q1 q2=> ?_,fun j e=> ?_,xY m7⟩
    ·by_cases hji:j=l.length
     ·subst hji;refine⟨{key:= .int .i64 n,val:=a.eval z,born:=es.size},by rw [<-m3];simp,m3,by rw [g0], ?_⟩;show fC F _ _ (rb' l.length) (MF E1 ((mH n row l).getD l.length default).2) (a.eval z);rw [g0,hrbi];exact newV _
     ·have hj':j<l.length:=by omega
      obtain⟨e',g1,g2,g3,g4⟩:=m4 j hj';obtain⟨r1,r2,r3⟩:=oldV (.map (es.push {key:= .int .i64 n,val:=a.eval z,born:=es.size}) (es.push {key:= .int .i64 n,val:=a.eval z,born:=es.size}).size) rb' j e' hj' g1 (i1 j hj') (fun q q1 q2=>(hrb0 j q hji).2 ⟨q1,q2⟩);refine⟨e',by rw [eK,ce (by omega)];exact g1,r1,by rw [g1' j hj'];exact r2, ?_⟩;show fC F _ _ (rb' j) (MF E1 ((mH n row l).getD j default).2) e'.val;rw [g1' j hj'];exact r3
    ·by_cases c1:j1=l.length<;>by_cases c2:j2=l.length
     ·rw [c1,c2]
     ·rw [c1,hrbi]at q1;have:=(hrb0 _ _ c2).1 q2;exact absurd (hi.dis b c _ _ q hob.symm hoc.symm this.2 (nqc q q1)) hbc
     ·rw [c2,hrbi]at q2;have:=(hrb0 _ _ c1).1 q1;exact absurd (hi.dis b c _ _ q hob.symm hoc.symm this.2 (nqc q q2)) hbc
     ·exact m5 _ _ _ ((hrb0 _ _ c1).1 q1).1 ((hrb0 _ _ c2).1 q2).1
    ·by_cases c1:j=l.length
     ·rw [c1,hrbi]at e;exact hcoth k (nqc k e) rfl
     ·exact m6 _ ((hrb0 _ _ c1).1 e).1
 ·cases he
theorem HI.Q9 {b c n' m m1 esz1:Nat} {n:Int} {K V E E1:TypeId} {nn:Bool} {l:List (Int × List Int)} {el1:Nat->Nat->DV} (fr:Fr B ρ F w) (hi:HI B ρ F w h) (hb:h b=some (some (.gm K V E l (some (n, .own c nn m))))) (hc:h c=some (some (.arr E1 esz1 m1 el1))) (hE:E1=E) (hs:esz1=1)
  (hm:m=m1) (hl:m1=(oK n l).length) (hq:aB m1 1 el1 (zm (oK n l))):HI B ρ F w (upd h [(b,some (.gm K V E l none)),(c,none)]):=by
 classical
 subst hE;subst hs;subst hm;subst hl;obtain⟨ft,hi⟩:=hi;have hbc:b≠c:=fun e=>by rw [e,hc]at hb;cases hb
 have hu: ∀x,upd h [(b,some (.gm K V E1 l none)),(c,none)] x=if b=x then some (some (.gm K V E1 l none))else if c=x then some none else h x:=by
  intro x;exact wT _ _ _ _ _
 have hfold:ig ρ F w (fun q=>ft b q\/ft c q) b (.gm K V E1 l none):=by
  obtain⟨k,base,cap,es,rb,m1,m0,m2,m3,m4,m5,m6,m7⟩:=hi.obj b _ hb;have hk: ∀q,ft c q->q≠k:=fun q hq e=>hbc (hi.dis b c _ _ k hb hc m0 (e ▸ hq));have rw2: ∀{q bq cq:Nat},oP F w q bq cq E1 1 (oK n l).length el1->oP F w q bq cq E1 1 (oK n l).length (zm (oK n l)):=fun⟨vs,h1,h2,h3,h4,h5⟩=> ⟨vs,h1,h2,h3,h4,fun i hi j hj=>by rw [<-hq i hi j hj];exact h5 i hi j hj⟩;obtain⟨nq,hnq⟩: ∃nq:Option Nat,(∀u,dK ρ F w (.own c nn (oK n l).length) u->fC F w (fun q=>ft b q\/ft c q) nq (MF E1 (oK n l)) u)/\ ∀q,nq=some q->ft c q:=by
   rcases hi.obj c _ hc with⟨g0,g1⟩|⟨q,bq,cq,g0,g1,g2⟩
   ·refine⟨none,fun u hu=> ?_,fun q e=>by cases e⟩;rcases hu with⟨q,bq,cq,e1,_⟩|⟨_,_,e3,e4⟩
    ·rw [g0]at e1;cases e1
    ·exact .inl ⟨g1,e4⟩
   ·refine⟨some q,fun u hu=> ?_,fun q' e=>by cases e;exact g1⟩;rcases hu with⟨q',bq',cq',e1,e2⟩|⟨_,e1,e3,e4⟩
    ·rw [g0]at e1;cases e1;exact .inr ⟨q,bq,cq,rfl, .inr g1,e2,rw2 g2⟩
    ·rw [g0]at e1;cases e1
  let rb':Nat->Option Nat:=fun j=>if(l.getD j default).1=n/\j<l.length then nq else(match rb j with|some q=>if ft b q then some q else none|none=>none)
  have hrb0: ∀j q, ¬ ((l.getD j default).1=n/\j<l.length)->(rb' j=some q↔rb j=some q/\ft b q):=fun j q hne=>by
   show(if _ then nq else _)=some q↔_;rw [ce hne];cases rb j with
   |none=>simp
   |some q'=>
    simp only [Option.some.injEq];split
    ·rename_i hf;constructor
     ·rintro e;cases e;exact⟨rfl,hf⟩
     ·rintro ⟨e,_⟩;rw [e]
    ·rename_i hf;constructor
     ·intro e;cases e
     ·rintro ⟨e,hf'⟩;subst e;exact absurd hf' hf
  have hrb1: ∀j,((l.getD j default).1=n/\j<l.length)->rb' j=nq:=fun j hj=>ci hj;refine⟨k,base,cap,es,rb',m1, .inl m0,m2,m3,fun i hi'=> ?_,fun i1 i2 q q1 q2=> ?_,fun i e=> ?_,m7⟩
  ·obtain⟨e,e1,e2,e3,e4⟩:=m4 i hi';refine⟨e,e1,e2,e3, ?_⟩;show fC F w _ _ (MF E1 (l.getD i default).2) e.val;unfold uS at e4;simp only at e4;by_cases hk':(l.getD i default).1=n
   ·rw [ci hk']at e4;rw [hrb1 i ⟨hk',hi'⟩];have:=hnq.1 _ e4;rcases yo n l with⟨i0,a1,a2,a3,a4⟩|⟨a1,_⟩
    ·have:=oH m7 hi' a1 (hk'.trans a2.symm);subst this;rw [<-a4];assumption
    ·exact absurd hk' (a1 i hi')
   ·rw [ce hk']at e4;rcases e4 with e4|⟨q,bq,cq,q1,q2,q3,q4⟩
    ·exact .inl e4
    ·exact .inr ⟨q,bq,cq,(hrb0 i q (fun e=>hk' e.1)).2 ⟨q1,q2⟩, .inl q2,q3,q4⟩
  ·by_cases c1:(l.getD i1 default).1=n/\i1<l.length<;>by_cases c2:(l.getD i2 default).1=n/\i2<l.length
   ·exact oH m7 c1.2 c2.2 (c1.1.trans c2.1.symm)
   ·rw [hrb1 _ c1]at q1;exact absurd (hi.dis b c _ _ q hb hc ((hrb0 _ _ c2).1 q2).2 (hnq.2 q q1)) hbc
   ·rw [hrb1 _ c2]at q2;exact absurd (hi.dis b c _ _ q hb hc ((hrb0 _ _ c1).1 q1).2 (hnq.2 q q2)) hbc
   ·exact m5 _ _ _ ((hrb0 _ _ c1).1 q1).1 ((hrb0 _ _ c2).1 q2).1
  ·by_cases c1:(l.getD i default).1=n/\i<l.length
   ·rw [hrb1 _ c1]at e;exact hk k (hnq.2 k e) rfl
   ·exact m6 _ ((hrb0 _ _ c1).1 e).1
 refine⟨qa ft b fun q=>ft b q\/ft c q, ?_⟩;refine hi.step (.refl _ _ _) fr (cx _) (fun x=>x=b\/x=c) (fun x ob' e hh=> ?_) (fun x ob' e hh=> ?_) (fun x ob' k e hh hf=> ?_) (fun b1 b2 o1 o2 k e1 e2 h1 h2 _ _=> ?_) (fun k hk=> .inl hk) fun x hh=> ?_
 ·rw [hu,ce (fun e'=>e (.inl e'.symm)),ce (fun e'=>e (.inr e'.symm))]at hh;exact⟨hh,fun _ _=>rfl,fun k=>by rw [eY (fun e'=>e (.inl e'))]⟩
 ·rcases e with rfl|rfl
  ·rw [hu,ci rfl]at hh;cases hh;rw [bB];exact hfold
  ·rw [hu,ce hbc,ci rfl]at hh;cases hh
 ·rcases e with rfl|rfl
  ·rw [bB]at hf;rcases hf with hf|hf
   ·exact .inl ⟨x,_, .inl rfl,hb,hf⟩
   ·exact .inl ⟨c,_, .inr rfl,hc,hf⟩
  ·rw [hu,ce hbc,ci rfl]at hh;cases hh
 ·have key: ∀x ob',(x=b\/x=c)->upd h [(b,some (.gm K V E1 l none)),(c,none)] x=some (some ob')->x=b:=fun x ob' e hh=>by
   rcases e with e|e;·exact e
   ·subst e;rw [hu,ce hbc,ci rfl]at hh;cases hh
  rw [key b1 o1 e1 h1,key b2 o2 e2 h2]
 ·rw [hu]at hh;split at hh
  ·cases hh
  ·split at hh
   ·cases hh
   ·exact hi.fresh x hh
theorem xB {Fc:Cl->List SV->List (Nat × Option Ob)->TV->List (Nat × Option Ob)->Prop} {ids:List Nat} {res:TV} {f:Cl} {xs:List TV} {obs:List (Option (Option Ob))} {E:Eff} (he:kS Fc (.callR ids res) f xs obs=some E):E.hd=[]/\ ∃g,f= .fn g:=by
 unfold kS at he;simp only at he;split at he;·cases he
 ·rename_i g;split at he
  ·rename_i args hin hargs hzip;cases hb:(bZ (args.flatMap SV.bP) ids && bZ (dF (obs.take ids.length)) ids)with
   |false=>simp [hb]at he
   |true=>simp only [hb,bt]at he;cases he;exact⟨rfl,g,rfl⟩
  ·cases he
theorem sO {f:Nat} {Fc:Cl->List SV->List (Nat × Option Ob)->TV->List (Nat × Option Ob)->Prop} (hFc:Fc (.fn f)=Fn P f) {xs:List TV} {an:iJ} {obs:List (Option (Option Ob))} {E:Eff} {vs:List Value} (he:iO Fc an (.fn f) xs obs=some E) (hc:All E.conds)
  (hobs: ∀ids res hout,an= .call ids res hout->obs=(ids++hout.map (·.1)).map h) (hobs2: ∀ids res,an= .callR ids res->obs=ids.map h) (hobs3: ∀ids res b c,an= .callG ids res b c->obs=(ids++[b]).map h) (hrun:(execOp a.eval o).run P w=(callFunc f vs.toArray).run P w)
  (fr:Fr B ρ F w) (hi:HI B ρ F w h) (hx:dG ρ F w xs vs):Good P B ρ F w h o a E.tv E.hd:=by
 unfold iO at he;split at he
 ·rename_i ids res b c;have ho:=hobs3 ids res b c rfl;split at he
  ·rename_i E0 K V Et l n c' nn m hin e0 e1 e2;split at he
   ·rename_i E1 esz1 m1 el1 e3;cases hb:(Nat.beq c c' && Nat.beq E1 Et && Nat.beq esz1 1 && !(Nat.beq b c))with
    |false=>simp [hb]at he
    |true=>
     simp only [hb,bt]at he;cases he;obtain⟨hm,hl,hq,hc0⟩:=hc;simp only [cd,c_]at hb;have b1:=bv hb.1.1.1;have b2:=bv hb.1.1.2;have b3:=bv hb.1.2;subst b1;have hlen:(ids.map h).length=ids.length:=by simp
     have htk:obs.take ids.length=ids.map h:=by rw [ho,List.map_append,eQ (by rw [hlen];exact cx _),List.take_of_length_le (by rw [hlen];exact cx _)]
     have hdr:obs.drop ids.length=[h b]:=by rw [ho,List.map_append,List.drop_append_of_le_length (by rw [hlen];exact cx _),List.drop_of_length_le (by rw [hlen];exact cx _)];rfl
     rw [htk]at e0 e2;rw [hdr]at e1;have hob:h b=some (some (.gm K V Et l (some (n, .own c nn m)))):=by simpa using e1
     have hoc:h c=some (some (.arr E1 esz1 m1 el1)):=by
      obtain⟨_,z2,_,_⟩:=pz e2;obtain⟨j,ob,y1,y2,y3⟩:=z2 c _ e3;rw [dj,y1]at y2;simp only [Option.map_some,Option.some.injEq]at y2;cases y3;exact y2
     obtain⟨hhd,_⟩:=xB e0;have hg:=GI hFc e0 hc0 (obs:=ids.map h) (fun _ _ _ e=>by cases e) (fun ids' res' e=>by cases e;rfl) hrun fr hi hx;rw [hhd]at hg;intro r K Q hK;refine hg r K Q fun v ρ' F' w' g f' hi' hr'=>hK v ρ' F' w' g f' ?_ hr';rw [TN]at hi';exact HI.Q9 (n':=0) f' hi' hob hoc b2 b3 hm hl hq
   ·cases he
  ·cases he
 ·exact GI hFc he hc hobs hobs2 hrun fr hi hx
end
section
variable {P:Program} {B:Base} {ρ ρ':Nat->Option Pl} {F F':Nat->Prop} {w w':World} {h:Hp} {o:Oper} {a:Act} {T:List (Nat × TI)}
theorem LK {t:TypeId} {x y:Operand} {xa xv:TV} {E:Eff} (ht:P.underlying t=some .string) (hop:o.op= .index t x y) (he:Bt xa xv=some E) (hc:All E.conds)
  (fr:Fr B ρ F w) (hi:HI B ρ F w h) (hx:bE ρ F w xa (a.eval x)) (hy:bE ρ F w xv (a.eval y)):Good P B ρ F w h o a E.tv E.hd:=by
 unfold Bt at he;split at he
 ·rename_i s k n;cases he;obtain⟨c,_⟩:=hc;have hx:a.eval x= .string s:=hx;have hy:a.eval y= .int k n:=hy;have hl:n.toNat<s.data.toList.length:=by simp;omega
  have e1:(dH s).getD n.toNat 0=(((s[n.toNat]'(by omega)).toNat:Nat):Int):=by
   unfold dH;rw [cS,dj,cR hl];rfl
  refine aH (v:= .int .u8 ((dH s).getD n.toNat 0)) fr hi ?_ rfl;rw [e1];simp only [execOp,hop,hx,hy,eC,run_index_string (w:=w) t s k n ht,dif_pos c,eA];rfl
 ·cases he
theorem Oe {s d e:TypeId} {x:Operand} {nn:Option Bool} {n:Nat} {el:Nat->Nat->DV} {ds:List DV} (h1:P.underlying s=some (.slice e)) (h2:P.underlying d=some .string) (h3:P.underlying e=some (.int .u8)) (hop:o.op= .convert s d x)
  (hc:All [0<n,n=ds.length,aB n 1 el fun i _=>ds.getD i .nilp,ds.all qi=true]) (hr:bG F w (.sl nn 1 n el) (a.eval x)) (fr:Fr B ρ F w) (hi:HI B ρ F w h):Good P B ρ F w h o a (.v (.one (.d (.str (Ng ds))))) []:=by
 obtain⟨c1,c2,c3,c4,_⟩:=hc;obtain⟨ad,cap,hv,_,_,k3,_,k5⟩:=hr;cases ad with
 |none=>have:=(k3 rfl).1;omega
 |some ad=>
  obtain⟨hs,hcell⟩:=k5 ad rfl;have hs:=hs c1;have hlen:(ds.map JZ).length=n:=by rw [dg];exact c2.symm
  have hrun:=run_convert_bytes_back (P:=P) w s d e ad cap (ds.map JZ) h1 h3 h2 fun j hj=>by
   have hj':j<n:=by omega
   have hj2:j<ds.length:=by omega
   obtain⟨_,u,hu,hru⟩:=hcell j hj' 0 (by omega);rw [c3 j hj' 0 (by omega)]at hru;have hru:bG F w (ds.getD j .nilp) u:=hru;rw [cS,cR hj2]at hru;have hb:=List.all_eq_true.1 c4 _ (List.getElem_mem hj2);rw [Nat.mul_one,Nat.add_zero]at hu;have e0:ad.add j=⟨ad.block,ad.off+j,none⟩:=mV hs j;rw [e0,hu,List.getElem_map];simp only [Option.getD_some]at hru;revert hru hb;generalize ds[j]=x;intro hru hb;cases x with
   |int k m=>
    cases k<;>simp [qi]at hb;have hru:u= .int .u8 m:=hru;rw [hru];have e1:(((JZ (.int .u8 m)).toNat:Nat):Int)=m:=by
     show(((UInt8.ofNat m.toNat).toNat:Nat):Int)=m;rw [UInt8.toNat_ofNat'];omega
    rw [e1]
   |_=>simp [qi]at hb
  rw [hlen]at hrun;refine aH (v:= .string ⟨(ds.map JZ).toArray⟩) fr hi ?_ rfl;simp only [execOp,hop,hv,eC,hrun,eA];rfl
theorem LF {s d e:TypeId} {x:Operand} {bs:ByteArray} {u:TypeDesc} (h1:P.underlying s=some u) (h2:P.underlying d=some (.slice e)) (h3:P.underlying e=some (.int .u8)) (hop:o.op= .convert s d x) (hr:a.eval x= .string bs)
  (fr:Fr B ρ F w) (hi:HI B ρ F w h):Good P B ρ F w h o a (.v (.one (.d (.sl (some true) 1 (dH bs).length fun i _=> .int .u8 ((dH bs).getD i 0))))) []:=by
 have hl:(dH bs).length=bs.size:=by simp [dH]
 have hg:bs.size<=grownCap w bs.size 0 e:=grownCap_ge w _ _ e;refine Hu (row:=(Lib.bytesCells w e bs).toList) (e:=e) (W:=Lib.bytesWorld w e bs) (cap:=grownCap w bs.size 0 e) (fz:=((Lib.bytesCells w e bs).size,(Lib.bytesCells w e bs).size+1)) fr hi ⟨?_,rfl,rfl,⟨rfl,trivial⟩⟩ ?_ (by rw [hl];exact hg) fun i hi' j hj=> ?_
 ·refine Array.ext_getElem? fun k=> ?_;rw [eK];split
  ·rename_i hk;rw [hk,Lib.bytesWorld_at_new]
  ·rename_i hk;rcases Nat.lt_or_ge k w.heap.size with hlt|hge
   ·rw [Lib.bytesWorld_at_old _ _ _ _ hlt]
   ·rw [Array.getElem?_eq_none hge,Array.getElem?_eq_none];rw [Lib.bytesWorld_size];omega
 ·rw [hl];simp only [execOp,hop,hr,eC,Lib.run_convert_string_bytes w s d e bs h1 h2 h3,eA];rfl
 ·have hj0:j=0:=by omega
  subst hj0;rw [hl]at hi';refine⟨.int .u8 ((dH bs).getD i 0), ?_,rfl⟩;have:=Lib.bytesWorld_cell w e bs i hi';simp only [World.cell?,Lib.bytesWorld_at_new]at this;simp only [Option.isSome_none,Bool.false_eq_true,if_false]at this;rw [Nat.mul_one,Nat.add_zero,Array.getElem?_toList,this];have e1:(dH bs).getD i 0=((bs.data.toList.getD i 0).toNat:Int):=by
   have hi2:i<bs.data.toList.length:=by simpa using hi'
   unfold dH;rw [cS,dj,cS,cR hi2];rfl
  rw [e1]
theorem dG.length: ∀{xs:List TV} {vs:List Value},dG ρ F w xs vs->vs.length=xs.length
 |[],[],_=>rfl
 |_::_,_::_,⟨_,t⟩=>by simp [dG.length t]
 |[],_::_,h=>h.elim
 |_::_,[],h=>h.elim
theorem dG.append: ∀{xs ys:List TV} {vs us:List Value},dG ρ F w xs vs->dG ρ F w ys us->dG ρ F w (xs++ys) (vs++us)
 |[],_,[],_,_,h'=>h'
 |_::_,_,_::_,_,⟨h,t⟩,h'=> ⟨h,dG.append t h'⟩
 |[],_,_::_,_,h,_=>h.elim
 |_::_,_,[],_,h,_=>h.elim
theorem qB: ∀{cs:List CV} {vs:List Value},bO ρ F w cs vs->dG ρ F w (cs.map fun c=> .v (.one c)) vs
 |[],[],_=>trivial
 |_::_,_::_,⟨h,t⟩=> ⟨h,qB t⟩
 |[],_::_,h=>h
 |_::_,[],h=>h
theorem Fa {α β:Type} {args:Array α} {f:α->β} {v:β} (h:(args.toList.map f)=[v]): ∃x,args= #[x]/\f x=v:=by
 match args with
 |⟨[x]⟩=>simp at h;exact⟨x,rfl,h⟩
 |⟨[]⟩=>simp at h
 |⟨_::_::_⟩=>simp at h
theorem uV {α β:Type} {args:Array α} {f:α->β} {v u:β} (h:(args.toList.map f)=[v,u]): ∃x y,args= #[x,y]/\f x=v/\f y=u:=by
 match args with
 |⟨[x,y]⟩=>simp at h;exact⟨x,y,rfl,h⟩
 |⟨[]⟩=>simp at h
 |⟨[_]⟩=>simp at h
 |⟨_::_::_::_⟩=>simp at h
theorem IX {α:Type} {ts:Array α} {t:α} (h:ts.toList=[t]):ts= #[t]:=by cases ts;simp at h;simp [h]
theorem Iq {α:Type} {ts:Array α} {t u:α} (h:ts.toList=[t,u]):ts= #[t,u]:=by cases ts;simp at h;simp [h]
theorem JF (hT:kg P T) {t:TypeId} {x:DV} (hb:IV T t x=true): ∀b,x= .bool b->P.underlying t=some .bool:=by
 intro b e;subst e;simp only [IV]at hb;split at hb
 ·rename_i ti hti;split at hb
  ·rename_i hd;have:=(hT.get hti).1;rw [hd]at this;exact this
  ·cases hb
 ·cases hb
theorem JW: ∀{ds:List DV} {vs:List Value},bO ρ F w (ds.map .d) vs->vs.length=ds.length/\ ∀j u,vs[j]? =some u->bG F w (yS ds j) u:=by
 intro ds vs hr;have hl:=hr.length;simp at hl;refine⟨hl,fun j u hj=> ?_⟩;have hlt:j<ds.length:=by
  rw [<-hl];rcases Nat.lt_or_ge j vs.length with h|h;·exact h
  ·rw [eL h]at hj;cases hj
 have hg:(ds.map CV.d)[j]? =some (.d (yS ds j)):=by
  rw [dj,yS,cS,cR hlt];rfl
 obtain⟨u',hu,hr'⟩:=hr.get hg;rw [hj]at hu;cases hu;exact hr'
theorem Ad: ∀{xs:List TV} {l:List SV} {vs:List Value},gT xs=some l->(l.all Nv)=true->dG ρ F w xs vs->bO ρ F w (l.flatMap cellsOf) vs
 |[],l,vs,hs,_,hx=>by simp [gT]at hs;subst hs;match vs,hx with|[],_=>trivial
 | .v s::xs,l,vs,hs,ha,hx=>by
  simp only [gT]at hs;split at hs
  ·rename_i l' hl;cases hs;simp only [List.all_cons,cd]at ha
   match vs,hx with
   |v::vs,⟨h1,h2⟩=>
    cases s with
    |agg _=>simp [Nv]at ha
    |one c=>exact⟨h1,Ad hl ha.2 h2⟩
  ·cases hs
 | .eB _::_,_,_,hs,_,_=>by simp [gT]at hs
theorem jb (c:Nat->CV): ∀i n,(dS c i n).length=n
 |_,0=>rfl
 |i,n+1=>by simp [dS,jb c (i+1) n]
theorem ni (c:Nat->CV): ∀i n j x,(dS c i n)[j]? =some x->j<n/\x=c (i+j)
 |_,0,j,x,h=>by simp [dS]at h
 |i,n+1,j,x,h=>by
  cases j with
  |zero=>simp [dS]at h;exact⟨by omega,h.symm⟩
  |succ j=>
   simp [dS]at h;obtain⟨h1,h2⟩:=ni c (i+1) n j x h;exact⟨by omega,by rw [h2];congr 1;omega⟩
theorem BD (hT:kg P T) {fresh:Nat} {an:iJ} {xs:List TV} {obs:List (Option (Option Ob))} {E:Eff} (he:QH (vF P) T fresh an o.op xs obs=some E) (hc:All E.conds)
  (hobs:obs=(foot an fresh o.op xs).map h) (fr:Fr B ρ F w) (hi:HI B ρ F w h) (hx:dG ρ F w xs (o.op.operands.toList.map a.eval)):Good P B ρ F w h o a E.tv E.hd:=by
 unfold QH at he;split at he
 ·-- move
  rename_i x hop;rw [hop]at hx;split at he
  ·cases he;obtain⟨v,hv,hr⟩:=hx.one;simp [Op.operands]at hv;exact aH fr hi (by simp [execOp,hop,hv]) hr
  ·cases he
 ·rename_i x hop;rw [hop]at hx;split at he
  ·cases he;obtain⟨v,hv,hr⟩:=hx.one;simp [Op.operands]at hv;exact aH fr hi (by simp [execOp,hop,hv]) hr
  ·cases he
 ·-- alloc
  rename_i t hop;split at he
  ·rename_i ti hti;split at he
   ·rename_i z hz;split at he
    ·rename_i len el;cases hb:(Nat.ble ti.size 1000 && Nat.beq ti.zero.length ti.size)with
     |false=>simp [hb]at he
     |true=>
      simp only [hb,bt]at he;simp only [cd]at hb;cases he;simp [hop,foot]at hobs;obtain⟨c1,c2,_⟩:=hc;exact EW (hT.get hti) hz hop hobs.symm c1 (cj hb.1) (bv hb.2) c2 fr hi
    ·cases he;simp [hop,foot]at hobs;exact JS (hT.get hti) hz hop hobs.symm fr hi
   ·cases he
  ·cases he
 ·-- box
  rename_i t x hop;rw [hop]at hx;split at he
  ·rename_i s;cases he;obtain⟨v,hv,hr⟩:=hx.one;simp [Op.operands]at hv;subst hv;simp [hop,foot]at hobs;exact PG hop hobs.symm fr hi hr
  ·cases he
 ·-- build
  rename_i t parts hop;rw [hop]at hx;split at he
  ·rename_i ti hti;refine Kr hT (hT.get hti) hop he fr hi ?_;simpa [Op.operands,Function.comp_def]using hx
  ·cases he
 ·rename_i t len parts hop;rw [hop]at hx;split at he
  ·rename_i ti hti;refine BS hT (hT.get hti) hop he hc ?_ fr hi ?_
   ·rw [hobs,hop];rfl
   ·simpa [Op.operands,Function.comp_def]using hx
  ·cases he
 ·-- load
  rename_i t x hop;rw [hop]at hx;split at he
  ·rename_i ti xa hti;obtain⟨v,hv,hr⟩:=hx.one;simp [Op.operands]at hv;subst hv;have ho:(∀c,an≠ .take c)->obs=(foot .none 0 (.load t x) [xa]).map h:=by
    intro hnt;rw [hobs,hop];cases xa with
    |eB l=>rfl
    |v s=>cases s with
     |agg _=>rfl
     |one c=>
      cases c<;>try rfl
      cases an<;>first|rfl|exact absurd rfl (hnt _)
   split at he;·exact KN (hT.get hti) hop he hc (ho (fun _ e=>by cases e)) fr hi hr
   ·refine ME (hT.get hti) hop he hc ?_ fr hi hr;rw [hobs,hop];cases xa with
    |eB l=>rfl
    |v s=>cases s with
     |agg _=>rfl
     |one c=>cases c<;>rfl
   ·rename_i hnt;exact Lb (hT.get hti) hop he hc (ho (fun c e=>hnt c e)) fr hi hr
  ·cases he
 ·-- store
  rename_i t x y hop;rw [hop]at hx;split at he
  ·rename_i ti xa xv hti;obtain⟨v,u,hv,hr1,hr2⟩:=hx.two;simp [Op.operands]at hv;obtain⟨rfl,rfl⟩:=hv;have ho:(∀n e,an≠ .rows n e)->obs=(foot .none 0 (.store t x y) [xa,xv]).map h:=by
    intro hnt;rw [hobs,hop];cases xa with
    |eB l=>rfl
    |v s=>cases s with
     |agg _=>rfl
     |one c=>
      cases c<;>try rfl
      cases an<;>first|rfl|exact absurd rfl (hnt _ _)
   split at he;·exact H9 (an:= .none) (hT.get hti) hop he hc (ho (fun _ _ e=>by cases e)) fr hi hr1 hr2
   ·rename_i n el;refine OC (len':=n) (hT.get hti) hop he hc ?_ fr hi hr1 hr2;rw [hobs,hop];cases xa with
    |eB l=>rfl
    |v s=>cases s with
     |agg _=>rfl
     |one c=>cases c<;>rfl
   ·rename_i hnt;exact Ci (hT.get hti) hop he hc (ho (fun n e h=>hnt n e h)) fr hi hr1 hr2
  ·cases he
 ·-- makeMap
  rename_i t hop;split at he
  ·rename_i ti hti;refine FK hT hop he ?_ fr hi;rw [hobs,hop];rfl
  ·cases he
 ·-- lookup
  rename_i t x y ok hop;rw [hop]at hx;split at he
  ·rename_i ti xa ya hti;obtain⟨v,u,hv,hr1,hr2⟩:=hx.two;simp [Op.operands]at hv;obtain⟨rfl,rfl⟩:=hv;split at he
   ·refine Jh hT (hT.get hti) hop he hc ?_ fr hi hr1 hr2;rw [hobs,hop];cases xa with
    |eB l=>rfl
    |v s=>cases s with
     |agg _=>rfl
     |one c=>cases c<;>rfl
   ·rename_i hnt;refine IB (an:=an) hT (hT.get hti) hop he hc ?_ fr hi hr1 hr2;rw [hobs,hop];cases xa with
    |eB l=>rfl
    |v s=>cases s with
     |agg _=>rfl
     |one c=>cases c<;>rfl
  ·cases he
 ·-- mapUpdate
  rename_i t x y z hop;rw [hop]at hx;split at he
  ·rename_i ti xa ya za hti;have hx3:dG ρ F w [xa,ya,za] [a.eval x,a.eval y,a.eval z]:=by simpa [Op.operands]using hx
   obtain⟨hr1,hr2,hr3,_⟩:=hx3;split at he
   ·refine LP hT (hT.get hti) (by simp [execOp,hop]) he hc ?_ fr hi hr1 hr2 hr3;rw [hobs,hop];cases xa with
    |eB l=>rfl
    |v s=>cases s with
     |agg _=>rfl
     |one c=>cases c<;>rfl
   ·rename_i hnt;refine tZ hT (hT.get hti) (by simp [execOp,hop]) he hc ?_ fr hi hr1 hr2 hr3;rw [hobs,hop];cases xa with
    |eB l=>rfl
    |v s=>cases s with
     |agg _=>rfl
     |one c=>cases c<;>(cases an<;>first|rfl|exact absurd rfl (hnt _))
  ·cases he
 ·-- insert
  rename_i t x y z hop;rw [hop]at hx;split at he
  ·rename_i ti xa ya za hti;have hx3:dG ρ F w [xa,ya,za] [a.eval x,a.eval y,a.eval z]:=by simpa [Op.operands]using hx
   obtain⟨hr1,hr2,hr3,_⟩:=hx3;refine tZ hT (hT.get hti) (by simp [execOp,hop]) he hc ?_ fr hi hr1 hr2 hr3;rw [hobs,hop];cases xa with
   |eB l=>rfl
   |v s=>cases s with
    |agg _=>rfl
    |one c=>cases c<;>rfl
  ·cases he
 ·-- slice
  rename_i t x lo hi' hop;rw [hop]at hx;split at he
  ·rename_i ti xa rr hti;have hx3:dG ρ F w (xa::rr) (a.eval x::(lo.toArray.toList.map a.eval++(hi'.toArray.toList.map a.eval++[]))):=by simpa [Op.operands]using hx
   obtain⟨hr1,hr2⟩:=hx3;split at he
   ·rename_i l r1 hl;obtain⟨g1,g2⟩:=GJ hl hr2;split at he
    ·rename_i hh hhi;obtain⟨_,g4⟩:=GJ hhi g1;refine KM hT (hT.get hti) hop he hc ⟨rr, ?_⟩ fr hi hr1 g2 g4;rw [hobs,hop]
    ·cases he
   ·cases he
  ·cases he
 ·-- slice, its room told
  rename_i t x lo hi' mx hop;rw [hop]at hx;split at he
  ·rename_i ti xa xl xh xm hti;have hx3:dG ρ F w [xa,xl,xh,xm] [a.eval x,a.eval lo,a.eval hi',a.eval mx]:=by simpa [Op.operands]using hx
   obtain⟨hr1,hr2,hr3,hr4,_⟩:=hx3;refine I7 hT (hT.get hti) hop he hc ?_ fr hi hr1 hr2 hr3 hr4;rw [hobs,hop]
  ·cases he
 ·-- index
  rename_i t x y hop;rw [hop]at hx;split at he
  ·rename_i ti xa xv hti;obtain⟨v,u,hv,hr1,hr2⟩:=hx.two;simp [Op.operands]at hv;obtain⟨rfl,rfl⟩:=hv;split at he
   ·rename_i hd;exact LK ((hT.get hti).1.trans (congrArg some hd)) hop he hc fr hi hr1 hr2
   ·split at he
    ·exact Ii hT (hT.get hti) hop he hc fr hi hr1 hr2
    ·cases he
  ·cases he
 ·-- nilCheck
  rename_i x hop;rw [hop]at hx;split at he
  ·cases bK he;obtain⟨v,hv,hr⟩:=hx.one;simp [Op.operands]at hv;subst hv;obtain⟨ad,hv,_⟩:=id hr;exact gH hop (.inl ⟨ad,hv⟩) fr hi hr
  ·cases he;obtain⟨v,hv,hr⟩:=hx.one;simp [Op.operands]at hv;subst hv;obtain⟨k,base,cap,_,hv⟩:=id hr;exact gH hop (.inl ⟨_,hv⟩) fr hi hr
  ·cases he;obtain⟨v,hv,hr⟩:=hx.one;simp [Op.operands]at hv;subst hv;obtain⟨k,base,cap,_,hv⟩:=id hr;exact gH hop (.inl ⟨_,hv⟩) fr hi hr
  ·cases bK he;obtain⟨v,hv,hr⟩:=hx.one;simp [Op.operands]at hv;subst hv;obtain⟨vs,hv,_⟩:=id hr;exact gH hop (.inr ⟨.func _,_,_,hv,fun _ e=>by cases e⟩) fr hi hr
  ·cases bK he;obtain⟨v,hv,hr⟩:=hx.one;simp [Op.operands]at hv;subst hv;obtain⟨vs,hv,_⟩:=id hr;exact gH hop (.inr ⟨.func _,_,_,hv,fun _ e=>by cases e⟩) fr hi hr
  ·cases he;obtain⟨v,hv,hr⟩:=hx.one;simp [Op.operands]at hv;subst hv;obtain⟨vs,hv,_⟩:=id hr;exact gH hop (.inr ⟨.func _,_,_,hv,fun _ e=>by cases e⟩) fr hi hr
  ·cases he;obtain⟨v,hv,hr⟩:=hx.one;simp [Op.operands]at hv;subst hv;obtain⟨k,base,cap,_,hv⟩:=id hr;exact gH hop (.inr ⟨.yield _,_,_,hv,fun _ e=>by cases e⟩) fr hi hr
  ·cases he
 ·-- binOp
  rename_i op t x y t' hop;rw [hop]at hx;split at he
  ·rename_i dx dy;obtain⟨v,u,hv,hr1,hr2⟩:=hx.two;simp [Op.operands]at hv;obtain⟨rfl,rfl⟩:=hv;split at he
   ·split at he
    ·rename_i ti hti;exact Px (hT.get hti) hop he fr hi hr1 hr2
    ·cases he
   ·split at he
    ·rename_i ti hti;obtain⟨ad,hv,_⟩:=hr1;exact JI (hT.get hti) hop he fr hi ⟨some ad,hv,rfl⟩ hr2
    ·cases he
   ·split at he
    ·rename_i ti hti;exact JI (hT.get hti) hop he fr hi ⟨none,hr1,rfl⟩ hr2
    ·cases he
   ·cases hb:IV T t dx with
    |false=>simp [hb]at he
    |true=>
     simp only [hb,bt]at he;exact PL (fun b1 b2 e1 _=>JF hT hb b1 e1) hop he hc fr hi hr1 hr2
  ·rename_i xs ys;obtain⟨v,u,hv,hr1,hr2⟩:=hx.two;simp [Op.operands]at hv;obtain⟨rfl,rfl⟩:=hv;split at he
   ·rename_i ti hti;cases hb:(ti.agg && ti.eq)with
    |false=>simp [hb]at he
    |true=>
     simp only [hb,bt]at he;simp only [cd]at hb;exact Kw hT hti hop he fr hi hr1 hr2 hb.1 (hT.Yr hti hb.2).2
   ·cases he
  ·rename_i b0 off0;obtain⟨v,u,hv,hr1,hr2⟩:=hx.two;simp [Op.operands]at hv;obtain⟨rfl,rfl⟩:=hv;split at he
   ·rename_i ti hti;exact IC (hT.get hti) hop he fr hi hr1 hr2
   ·cases he
  ·cases he
 ·rename_i op t x hop;rw [hop]at hx;split at he
  ·rename_i dx;obtain⟨v,hv,hr⟩:=hx.one;simp [Op.operands]at hv;subst hv;exact QX hop he fr hi hr
  ·cases he
 ·-- convert
  rename_i s d x hop;rw [hop]at hx;split at he
  ·rename_i ts td k n h1 h2;split at he
   ·rename_i k1 k2 e1 e2;cases bK he;obtain⟨v,hv,hr⟩:=hx.one;simp [Op.operands]at hv;subst hv;have hr:a.eval x= .int k n:=hr;refine aH (v:= .int k2 (k2.wrap n)) fr hi ?_ rfl;simp [execOp,hop,convert,aL (hT.get h1),aL (hT.get h2),e1,e2,hr,Conv.intToInt]
   ·cases he
  ·rename_i ts td nn n el h1 h2;split at he
   ·rename_i e ds e1 e2;split at he
    ·rename_i te h3;split at he
     ·rename_i e3;obtain⟨v,hv,hr⟩:=hx.one;simp [Op.operands]at hv;subst hv;cases he;exact Oe ((hT.get h1).1.trans (congrArg some e1)) ((hT.get h2).1.trans (congrArg some e2)) ((hT.get h3).1.trans (congrArg some e3)) hop hc hr fr hi
     ·cases he
    ·cases he
   ·cases he
  ·rename_i ts td bs h1 h2;split at he
   ·rename_i e e2;split at he
    ·rename_i te h3;split at he
     ·rename_i e3;cases bK he;obtain⟨v,hv,hr⟩:=hx.one;simp [Op.operands]at hv;subst hv;have hr:a.eval x= .string bs:=hr;exact LF (hT.get h1).1 ((hT.get h2).1.trans (congrArg some e2)) ((hT.get h3).1.trans (congrArg some e3)) hop hr fr hi
     ·cases he
    ·cases he
   ·cases he
  ·cases he
 ·-- makeFunc
  rename_i f first captured hop
  rw [hop]at hx;split at he
  ·rename_i l hl;cases hall:(l.all Nv)with
   |false=>
    rw [hall]at he;simp only [bu]at he;split at he
    ·rename_i cs;cases hb:Nat.beq first.size 1 with
     |false=>rw [hb]at he;cases he
     |true=>
      rw [hb]at he;simp only [bt]at he;split at he
      ·rename_i ds hds;cases bK he;have hsz:=bv hb;have hcap:(Op.makeFunc (.func f) first captured).operands.toList.map a.eval=first.toList.map a.eval++captured.toList.map a.eval:=by simp [Op.operands]
       rw [hcap]at hx;have hss:=yu hl hx
       match hf:first.toList.map a.eval,hc:captured.toList.map a.eval,hss with
       |[u],[],⟨⟨vs,hu,hvs⟩,_⟩=>
        rw [gF hds]at hvs;obtain⟨c1,c2⟩:=JW hvs;have hrun:(execOp a.eval o).run P w= .ok (.value (.func (.func f) (first.map a.eval) (captured.map a.eval))) w:=by simp [execOp,hop,Instr.makeFunc]
        refine aH fr hi hrun ⟨vs, ?_,c1,c2⟩;rw [show first.map a.eval= #[u]from by rw [<-Array.toList_inj];simpa using hf,show captured.map a.eval= #[]from by rw [<-Array.toList_inj];simpa using hc,hu]
       |[],_,hss=>exfalso;have:=congrArg List.length hf;simp [hsz]at this
       |_::_::_,_,hss=>exfalso;have:=congrArg List.length hf;simp [hsz]at this
       |[u],_::_,hss=>exact hss.2.elim
      ·cases he
    ·cases he
   |true=>
    rw [hall]at he;simp only [bt]at he;have hcap:(Op.makeFunc (.func f) first captured).operands.toList.map a.eval=first.toList.map a.eval++captured.toList.map a.eval:=by simp [Op.operands]
    rw [hcap]at hx;have hcells:=Ad hl hall hx;have hrun:(execOp a.eval o).run P w= .ok (.value (.func (.func f) (first.map a.eval) (captured.map a.eval))) w:=by simp [execOp,hop,Instr.makeFunc]
    split at he
    ·rename_i ds hfs hds;cases bK he;have hf0:first= #[]:=by simpa using hfs
     subst hf0;rw [gF hds]at hcells;obtain⟨c1,c2⟩:=JW hcells;refine aH fr hi hrun ⟨captured.toList.map a.eval, ?_,by simpa using c1,by simpa using c2⟩;rw [show captured.map a.eval=(captured.toList.map a.eval).toArray from Array.ext' (by simp)];simp
    ·cases he;have hlen:=hcells.length;refine aH fr hi hrun ⟨first.toList.map a.eval++captured.toList.map a.eval, ?_,hlen,fun j u hj=> ?_⟩
     ·have e1:(first.toList.map a.eval++captured.toList.map a.eval).take first.size=first.toList.map a.eval:=by
       rw [eQ (by simp)];exact List.take_of_length_le (by simp)
      have e2:(first.toList.map a.eval++captured.toList.map a.eval).drop first.size=captured.toList.map a.eval:=by
       rw [List.drop_append_of_le_length (by simp)];simp
      rw [e1,e2];congr 1;·exact Array.ext' (by simp)
      ·exact Array.ext' (by simp)
     ·have hlt:j<(l.flatMap cellsOf).length:=by rw [<-hlen];exact(List.getElem?_eq_some_iff.1 hj).1
      have hg:(l.flatMap cellsOf)[j]? =some ((l.flatMap cellsOf).getD j (.d .nilp)):=by rw [cS,cR hlt];rfl
      obtain⟨u',hu,hr⟩:=hcells.get hg;rw [hj]at hu;cases hu;exact hr
  ·cases he
 ·rename_i t x y hop;rw [hop]at hx;split at he
  ·rename_i ti xl xc hti;obtain⟨v,u,hv,hr1,hr2⟩:=hx.two;simp [Op.operands]at hv;obtain⟨rfl,rfl⟩:=hv;refine MQ hT (hT.get hti) hop he hc ?_ fr hi hr1 hr2;rw [hobs,hop];rfl
  ·cases he
 ·rename_i t x f hop;rw [hop]at hx;split at he
  ·rename_i ti xa hti;obtain⟨v,hv,hr⟩:=hx.one;simp [Op.operands]at hv;subst hv;exact JV hT (hT.get hti) hop he fr hi hr
  ·cases he
 ·rename_i t x f hop;rw [hop]at hx;split at he
  ·rename_i ti xa hti;obtain⟨v,hv,hr⟩:=hx.one;simp [Op.operands]at hv;subst hv;exact LM hT (hT.get hti) hop he fr hi hr
  ·cases he
 ·rename_i t x y hop;rw [hop]at hx;split at he
  ·rename_i ti xa xi hti;obtain⟨v,u,hv,hr1,hr2⟩:=hx.two;simp [Op.operands]at hv;obtain⟨rfl,rfl⟩:=hv;exact J3 hT (hT.get hti) hop he hc fr hi hr1 hr2
  ·cases he
 ·rename_i x ix hop;rw [hop]at hx;split at he
  ·rename_i l;split at he
   ·rename_i s hs;cases he;obtain⟨v,hv,hr⟩:=hx.one;simp [Op.operands]at hv;subst hv;exact FL hop hs fr hi hr
   ·cases he
  ·cases he
 ·-- call
  rename_i c hop;rw [hop]at hx;obtain⟨callee,args,ats⟩:=c;split at he
  ·rename_i b hcal;cases hcal;have hops:(Op.call {callee:=Callee.builtin b,args:=args,argTypes:=ats}).operands.toList.map a.eval=args.toList.map a.eval:=by simp [Op.operands,Call.operands]
   rw [hops]at hx;unfold Fs at he;split at he
   ·rename_i t x hts;split at he
    ·rename_i ti hti;obtain⟨v,hv,hr⟩:=hx.one;obtain⟨x',rfl,rfl⟩:=Fa hv;have:=IX hts;subst this;exact NM (hT.get hti) hop he fr hi hr
    ·cases he
   ·rename_i t t' s x hts;split at he
    ·rename_i ti ti' hti hti';split at he
     ·rename_i e e' hd hd';split at he
      ·rename_i te hte;cases hb:Nat.beq t t' with
       |false=>simp [hb]at he
       |true=>
        simp only [hb,bt]at he;have:=bv hb;subst this;obtain⟨v,u,hv,hr1,hr2⟩:=hx.two;obtain⟨x',y',rfl,rfl,rfl⟩:=uV hv;have:=Iq hts;subst this;have hu:=(hT.get hti).1;rw [hd]at hu;refine Jc hu (hT.get hte) hop he hc ?_ fr hi hr1 hr2;rw [hobs,hop];cases s with
        |eB l=>rfl
        |v s=>cases s with
         |agg _=>rfl
         |one c=>cases x with
          |eB l=>cases c<;>rfl
          |v s2=>cases s2 with
           |agg _=>cases c<;>rfl
           |one c2=>cases c<;>cases c2<;>rfl
      ·cases he
     ·rename_i e kn hd hd';split at he
      ·rename_i te hte;obtain⟨v,u,hv,hr1,hr2⟩:=hx.two;obtain⟨x',y',rfl,rfl,rfl⟩:=uV hv;have:=Iq hts;subst this;have hu:=(hT.get hti).1;rw [hd]at hu;have hu':=(hT.get hti').1;rw [hd']at hu';refine Lx hu hu' (hT.get hte) hop he hc ?_ fr hi hr1 hr2;rw [hobs,hop];cases s with
       |eB l=>rfl
       |v s=>cases s with
        |agg _=>rfl
        |one c=>cases x with
         |eB l=>cases c<;>rfl
         |v s2=>cases s2 with
          |agg _=>cases c<;>rfl
          |one c2=>cases c<;>cases c2<;>rfl
      ·cases he
     ·cases he
    ·cases he
   ·rename_i t t' s x hts;split at he
    ·rename_i ti ti' hti hti';split at he
     ·rename_i e hd;split at he
      ·rename_i te hte;obtain⟨v,u,hv,hr1,hr2⟩:=hx.two;obtain⟨x',y',rfl,rfl,rfl⟩:=uV hv;have:=Iq hts;subst this;have hu:=(hT.get hti).1;rw [hd]at hu;refine Mi hu (hT.get hte) hop he hc ?_ fr hi hr1 hr2;rw [hobs,hop];cases s with
       |eB l=>rfl
       |v s=>cases s with
        |agg _=>rfl
        |one c=>cases x with
         |eB l=>cases c<;>rfl
         |v s2=>cases s2 with
          |agg _=>cases c<;>rfl
          |one c2=>cases c<;>cases c2<;>rfl
      ·cases he
     ·cases he
    ·cases he
   ·rename_i t x hts;split at he
    ·rename_i ti hti;split at he
     ·rename_i e hd;split at he
      ·rename_i te hte;obtain⟨v,hv,hr⟩:=hx.one;obtain⟨x',rfl,rfl⟩:=Fa hv;have:=IX hts;subst this;have hu:=(hT.get hti).1;rw [hd]at hu;refine Ki hu (hT.get hte) hop he hc ?_ fr hi hr;rw [hobs,hop];cases x with
       |eB l=>rfl
       |v s=>cases s with
        |agg _=>rfl
        |one c=>cases c<;>rfl
      ·cases he
     ·cases he
    ·cases he
   ·rename_i t esz len el hts;split at he
    ·rename_i ti hti;split at he
     ·rename_i e hd;cases bK he;obtain⟨v,hv,hr⟩:=hx.one;obtain⟨x',rfl,rfl⟩:=Fa hv;have:=IX hts;subst this;exact PK (hT.get hti) hd hop fr hi hr
     ·cases he
    ·cases he
   ·rename_i k p k' q _;split at he
    ·cases bK he;obtain⟨v,u,hv,hr1,hr2⟩:=hx.two;obtain⟨x',y',rfl,rfl,rfl⟩:=uV hv;exact OB hop fr hi hr1 hr2
    ·cases he
   ·rename_i k p k' q _;split at he
    ·cases bK he;obtain⟨v,u,hv,hr1,hr2⟩:=hx.two;obtain⟨x',y',rfl,rfl,rfl⟩:=uV hv;exact Pn hop fr hi hr1 hr2
    ·cases he
   ·cases he
  ·rename_i f hcal;cases hcal;have hops:(Op.call {callee:=Callee.value f,args:=args,argTypes:=ats}).operands.toList.map a.eval=a.eval f::args.toList.map a.eval:=by simp [Op.operands,Call.operands]
   rw [hops]at hx;split at he
   ·rename_i fid n cap as;obtain⟨⟨vs,hv,hn,hcap⟩,hx2⟩:=hx;have hl:bO ρ F w (takeC cap 0 n) vs:=by
     refine bO.jJ (by rw [fJ,hn]) fun j c hj=> ?_;obtain⟨hlt,rfl⟩:=ku cap 0 n j c hj;have hg:=cR (l:=vs) (i:=j) (by omega);exact⟨_,hg,by rw [cC];exact hcap j _ hg⟩
    refine sO rfl he hc (vs:=args.toList.map a.eval++vs) (fun ids res hout e=> ?_) (fun ids res e=> ?_) (fun ids res b c e=> ?_) ?_ fr hi (hx2.append (qB hl));·rw [hobs,hop,e];rfl
    ·rw [hobs,hop,e];rfl
    ·rw [hobs,hop,e];rfl
    ·rw [show(args.toList.map a.eval++vs).toArray=args.map a.eval++vs.toArray from Array.ext' (by simp)];simp [execOp,hop,resolve,hv,Deferred.ofValue,invoke]
   ·rename_i fid n cap as;obtain⟨⟨vs,hv,hn,hcap⟩,hx2⟩:=hx;have hl:bO ρ F w (takeC cap 0 n) vs:=by
     refine bO.jJ (by rw [fJ,hn]) fun j c hj=> ?_;obtain⟨hlt,rfl⟩:=ku cap 0 n j c hj;have hg:=cR (l:=vs) (i:=j) (by omega);exact⟨_,hg,by rw [cC];exact hcap j _ hg⟩
    refine sO rfl he hc (vs:= .agg vs.toArray::args.toList.map a.eval) (fun ids res hout e=> ?_) (fun ids res e=> ?_) (fun ids res b c e=> ?_) ?_ fr hi ⟨⟨vs,rfl,hl⟩,hx2⟩;·rw [hobs,hop,e];rfl
    ·rw [hobs,hop,e];rfl
    ·rw [hobs,hop,e];rfl
    ·rw [show(Value.agg vs.toArray::args.toList.map a.eval).toArray= #[Value.agg vs.toArray]++args.map a.eval from Array.ext' (by simp)];simp [execOp,hop,resolve,hv,Deferred.ofValue,invoke]
   ·rename_i fid nf n cap as;cases hnf:Nat.ble nf n with
    |false=>simp [hnf]at he
    |true=>
     simp only [hnf,bt]at he;have hle:=cj hnf;obtain⟨⟨vs,hv,hn,hcap⟩,hx2⟩:=hx;have hl1:bO ρ F w (dS cap 0 nf) (vs.take nf):=by
      refine bO.jJ (by rw [jb];simp;omega) fun j c hj=> ?_;obtain⟨hlt,rfl⟩:=ni cap 0 nf j c hj;have hg:=cR (l:=vs) (i:=j) (by omega);exact⟨_,by rw [List.getElem?_take,ci hlt];exact hg,by rw [cC];exact hcap j _ hg⟩
     have hl2:bO ρ F w (dS cap nf (n - nf)) (vs.drop nf):=by
      refine bO.jJ (by rw [jb];simp;omega) fun j c hj=> ?_;obtain⟨hlt,rfl⟩:=ni cap nf (n - nf) j c hj;have hg:=cR (l:=vs) (i:=nf+j) (by omega);exact⟨_,by rw [List.getElem?_drop];exact hg,hcap (nf+j) _ hg⟩
     refine sO rfl he hc (vs:=vs.take nf++args.toList.map a.eval++vs.drop nf) (fun ids res hout e=> ?_) (fun ids res e=> ?_) (fun ids res b c e=> ?_) ?_ fr hi (((qB hl1).append hx2).append (qB hl2));·rw [hobs,hop,e];rfl
     ·rw [hobs,hop,e];rfl
     ·rw [hobs,hop,e];rfl
     ·rw [show(vs.take nf++args.toList.map a.eval++vs.drop nf).toArray=(vs.take nf).toArray++args.map a.eval++(vs.drop nf).toArray from Array.ext' (by simp)];simp [execOp,hop,resolve,hv,Deferred.ofValue,invoke]
   ·rename_i b as;obtain⟨⟨k,base,cap,hk,hv⟩,hx2⟩:=hx;have hX:kS (vF P) an (.yl b) as obs=some E:=by
     unfold iO at he;split at he
     ·split at he
      ·rename_i e0 _ _;obtain⟨_,g,hg⟩:=xB e0;cases hg
      ·cases he
     ·exact he
    refine Mg hX hc (by rw [hop];rfl) (vs:=args.toList.map a.eval) (fun ids res hout e=> ?_) (fun l base' cap' hl=> ?_) fr hi hx2 ⟨k,base,cap,hk⟩;·rw [hobs,hop,e];rfl
    ·rw [hk]at hl;cases hl;rw [show(args.toList.map a.eval).toArray=args.map a.eval from Array.ext' (by simp)];simp [execOp,hop,resolve,hv,Deferred.ofValue,invoke]
   ·cases he
  ·cases he
 ·cases he
end
end Sg
