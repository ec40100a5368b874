import Derived.Test.YtcafpngcflplgaaGreatDoorSmLd
set_option linter.all false
namespace Sg
open Go
def Y1 (sz:Nat) (l:List EV) (i j:Nat):EV:=l.getD (i*sz+j) (.d .nilp)
def IS.fo (b c E esz len i j E1 esz1 n:Nat) (nn:Bool) (el el':Nat->Nat->EV) (el1:Nat->Nat->DV) (h: ∀i',i'<len-> ∀j',j'<esz->Nw el i j (.row E1 esz1 n el1) i' j'=el' i' j'):IS where
 act st:=match get st.heap b,get st.heap c with|some x,some y=>[.ob x, .ob y]|_,_=>[.b false]
 want _:=[.ob (some (.rows E esz len el (some (i,j, .own c nn n)))), .ob (some (.arr E1 esz1 n el1))]
 nxt st:=⟨st.slots,(b,some (.rows E esz len el' none))::(c,none)::st.heap⟩
 ok B N L st hs:=by
  split at hs
  ·rename_i x y h1 h2;simp only [List.cons.injEq,Ck.ob.injEq,and_true]at hs;obtain⟨rfl,rfl⟩:=hs;exact jl.fold h1 h2 h
  ·simp at hs
def KS:List Nat->List (Nat × TV)->List (Nat × TV)
 |[],_=>[]
 |t::ks,l=>match get l t with|some v=>(t,v)::KS ks l|none=>KS ks l
theorem BJ {l:List (Nat × TV)}: ∀{ks:List Nat} {t:Nat} {v:TV},get (KS ks l) t=some v->get l t=some v
 |[],_,_,h=>by cases h
 |k::ks,t,v,h=>by
  unfold KS at h;split at h
  ·rename_i v' hv;rw [aC]at h;split at h
   ·rename_i e;subst e;cases h;exact hv
   ·exact BJ h
  ·exact BJ h
def IS.dp (ks:List Nat):IS where
 act _:=[]
 want _:=[]
 nxt st:=⟨KS ks st.slots,st.heap⟩
 ok B N L st _:=fun a w hc=> ⟨by
  obtain⟨ρ,F,h1,h2,h3,h4⟩:=hc.ex;exact⟨ρ,F,h1,h2,fun t tv ht=>h3 t tv (BJ ht),h4⟩,hc.ids,hc.sz⟩
def Sc.so {R:Type} (t b:Nat) (nn:Bool) (n m:Nat) (j:Nat) (k:Sc R):Sc R:=
 .wi j {
  p:=n=m,act:=(fun st=>match get st.slots t with|some w=>[.tv w, .b true]|none=>[.tv (.v (.one (.own b nn n))), .b false]),want:=fun _=>[.tv (.v (.one (.own b nn n))), .b true],
  nxt:=fun st=> ⟨yt t (.v (.one (.own b nn m))) st.slots,st.heap⟩,
  ok:=fun hp B N L st hs=>by
   have:=hp;subst this;cases hg:get st.slots t with
   |none=>rw [hg]at hs;simp at hs
   |some w=>
    rw [hg]at hs;simp only [List.cons.injEq,Ck.tv.injEq,and_true]at hs;subst hs;exact Sg.us t _ hg (.refl _)} k
def zy {α:Type} [Inhabited α] (l:List α) (lo n:Nat):List α:=(List.range n).map fun i=>at' l (i+lo)
theorem vY {α:Type} [Inhabited α] (l:List α) (lo n:Nat):(zy l lo n).length=n:=by simp [zy]
section
variable {B:Base} {N:Nat} {L:List Nat} {st:St}
end
section
variable {B:Base} {N:Nat} {L:List Nat} {st:St}
theorem jl.XF {t b b' E esz n:Nat} {el:Nat->Nat->DV} {nn:Bool} {len:Nat} (hp:get st.slots t=some (.v (.one (.own b nn len)))) (hb:get st.heap b=some (some (.arr E esz n el))) (hb':get st.heap b'=none):
  jl B N L st ⟨(t, .v (.one (.own b' nn len)))::st.slots,(b',some (.arr E esz n el))::(b,none)::st.heap⟩:=by
 intro a w hc;obtain⟨⟨ρ,F,hfr,⟨ft,hi⟩,hs,dn⟩,hid,sz⟩:=hc;have hρ:=hi.fresh b' hb';have hbb':b≠b':=fun e=>by rw [e,hb']at hb;cases hb
 obtain⟨pl,hpl⟩: ∃pl,ρ b=some pl:=by
  rcases hi.obj b _ hb with⟨h,_⟩|⟨k,base,cap,h,_⟩<;>exact⟨_,h⟩
 have hu: ∀x,aP ((b',some (.arr E esz n el))::(b,none)::st.heap) x=if b'=x then some (some (.arr E esz n el))else if b=x then some none else aP st.heap x:=fun x=>by simp only [aP];rw [aC,aC]
 have g:Gr ρ F w (bN ρ b' pl) F w:=⟨aS hρ,fun _ h=>h,fun _ _=>rfl⟩;have hlive: ∀x ox,(x=b'\/x=b)->aP ((b',some (.arr E esz n el))::(b,none)::st.heap) x=some (some ox)->x=b'/\ox= .arr E esz n el:=fun x ox hx hh=>by
  rw [hu]at hh;rcases hx with rfl|rfl;·rw [ci rfl]at hh;cases hh;exact⟨rfl,rfl⟩
  ·rw [ce (Ne.symm hbb'),ci rfl]at hh;cases hh
 refine⟨⟨bN ρ b' pl,F,{hfr with rho:=fun x p' e=>aS hρ x p' (hfr.rho x p' e)},⟨qa ft b' (ft b), ?_⟩,fun t' tv ht'=> ?_,dn⟩,hid,sz⟩
 ·refine hi.step g hfr (cx _) (fun x=>x=b'\/x=b) (fun x ox hx hh=> ?_) (fun x ox hx hh=> ?_) (fun x ox k hx hh hf=> ?_) (fun x y ox oy k hx hy h1 h2 f1 f2=>(hlive x ox hx h1).1.trans (hlive y oy hy h2).1.symm) (fun k hk=> .inl hk) fun x hh=> ?_
  ·rw [hu,ce (fun e=>hx (.inl e.symm)),ce (fun e=>hx (.inr e.symm))]at hh;exact⟨hh,fun _ _=>rfl,fun k=>by rw [eY (fun e=>hx (.inl e))]⟩
  ·obtain⟨rfl,rfl⟩:=hlive x ox hx hh;rw [bB];rcases hi.obj b _ hb with⟨h,h0⟩|⟨k,base,cap,h,h1,h2⟩
   ·rw [hpl]at h;cases h;exact .inl ⟨ay _ _,h0⟩
   ·rw [hpl]at h;cases h;exact .inr ⟨k,base,cap,ay _ _,h1,h2⟩
  ·obtain⟨rfl,rfl⟩:=hlive x ox hx hh;rw [bB]at hf;exact .inl ⟨b,_, .inr rfl,hb,hf⟩
  ·rw [hu]at hh;split at hh
   ·cases hh
   ·split at hh
    ·cases hh
    ·rename_i e2 e3;have:=hi.fresh x hh;simp only [bN];rw [ce (Ne.symm e2)];exact this
 ·rw [aC]at ht';split at ht'
  ·rename_i e;subst e;cases ht';obtain⟨v,hv,hr⟩:=hs t _ hp;refine⟨v,hv, ?_⟩;rcases hr with⟨k,base,cap,e1,e2⟩|⟨e0,e1,e2,e3⟩
   ·rw [hpl]at e1;cases e1;exact .inl ⟨k,base,cap,ay _ _,e2⟩
   ·rw [hpl]at e1;cases e1;exact .inr ⟨e0,ay _ _,e2,e3⟩
  ·obtain⟨v,hv,hr⟩:=hs t' tv ht';exact⟨v,hv,hr.gr g⟩
end
section
variable {B:Base} {N:Nat} {L:List Nat} {st:St}
end
section
variable {B:Base} {N:Nat} {L:List Nat} {st:St}
end
def Sc.hb {R:Type} (n:Nat) (c v:Bool) (x y:Option Ob) (j:Nat) (k:Sc R):Sc R:=
 .wi j {
  p:=c=v,act:=(fun st=>match get st.heap n with|some o=>[.ob o, .b true]|none=>[.ob (bif c then x else y), .b false]),want:=fun _=>[.ob (bif c then x else y), .b true],
  nxt:=fun st=> ⟨st.slots,yt n (bif v then x else y) st.heap⟩,
  ok:=fun hp B N L st hs=>by
   subst hp;cases hg:get st.heap n with
   |none=>rw [hg]at hs;simp at hs
   |some o=>
    rw [hg]at hs;simp only [List.cons.injEq,Ck.ob.injEq,and_true]at hs;subst hs;exact Sg.uh n _ hg (.refl _)} k
def IS.rs (t b b':Nat):IS where
 act st:=match get st.slots t,get st.heap b,get st.heap b' with
  |some (.v (.one (.own k _ _))),some (some (.arr _ _ _ _)),none=>[.n k, .b true]
  |_,_,_=>[.b false]
 want _:=[.n b, .b true]
 nxt st:=match get st.slots t,get st.heap b with
  |some (.v (.one (.own _ nn len))),some (some (.arr E esz n el))=> ⟨(t, .v (.one (.own b' nn len)))::st.slots,(b',some (.arr E esz n el))::(b,none)::st.heap⟩
  |_,_=>st
 ok B N L st hs:=by
  split at hs
  ·rename_i k nn len E esz n el h1 h2 h3;simp only [List.cons.injEq,Ck.n.injEq,and_true]at hs;subst hs;rw [h1,h2];exact jl.XF h1 h2 h3
  ·simp at hs
def Sc.ge {R:Type} (b K V E:Nat) (l l':List (Int × List Int)) (j:Nat) (k:Sc R):Sc R:=
 .wi j {
  p:=l=l',act:=(fun st=>match get st.heap b with|some x=>[.ob x]|none=>[.b false]),want:=fun _=>[.ob (some (.gm K V E l none))],
  nxt:=fun st=> ⟨st.slots,yt b (some (.gm K V E l' none)) st.heap⟩,
  ok:=fun hp B N L st hs=>by
   subst hp;split at hs
   ·rename_i x h1;simp only [List.cons.injEq,Ck.ob.injEq,and_true]at hs;subst hs;exact Sg.uh b _ h1 (.refl _)
   ·simp at hs} k
end Sg
