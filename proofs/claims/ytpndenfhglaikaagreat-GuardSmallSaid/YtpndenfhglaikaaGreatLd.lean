import Derived.Test.YtpndenfhglaikaaGreatLc
set_option linter.all false
namespace Sg
open Go
def Sc.sn {R:Type} (t:Nat) (x q:Int) (p:Prop) (h:p→x=q) (j:Nat) (k:Sc R):Sc R:=
 .wi j {
  p:=p,act:=(fun st=>match get st.slots t with|some w=>[.tv w, .b true]|none=>[.tv (vI x), .b false]),want:=fun _=>[.tv (vI x), .b true],nxt:=fun st=> ⟨Bz t (vI q) st.slots,st.heap⟩,
  ok:=fun hp B N L st hs=>by
   have:=h hp
   subst this
   cases hg:get st.slots t with
   |none=>rw [hg]at hs;simp at hs
   |some w=>
    rw [hg]at hs
    simp only [List.cons.injEq,Ck.tv.injEq,and_true]at hs
    subst hs
    exact Sg.us t _ hg (.refl _)} k
def Sc.un {α R:Type} [Inhabited α] (b c E esz:Nat) (cf:α→Nat→DV) (l:List α) (q:Int) (j:Nat) (k:Sc R):Sc R:=
 .wi j {
  p:=0≤q∧q≤(l.length:Int),act:=(fun st=>match get st.heap b,get st.heap c with|some x,some y=>[.ob x, .ob y, .b (Nat.ble 1 esz)]|_,_=>[.b false]),
  want:=fun _=>[.ob (some (.arr E esz l.length (au cf l))), .ob (some (.suf b q.toNat esz)), .b true],nxt:=fun st=> ⟨st.slots,(c,some (.arr E esz (l.length - q.toNat) (au cf (l.drop q.toNat))))::(b,none)::st.heap⟩,
  ok:=fun hp B N L st hs=>by
   split at hs
   ·rename_i x y h1 h2
    simp only [List.cons.injEq,Ck.ob.injEq,Ck.b.injEq,and_true]at hs
    obtain⟨rfl,rfl,hz⟩:=hs
    exact nH.Tk h1 h2 (by omega) (by have:=Nat.le_of_ble_eq_true hz;omega)
   ·simp at hs} k
def IS.tr (b E esz len:Nat) (el:Nat→Nat→DV) (el':Nat→Nat→EV) (h: ∀i,i<len→ ∀j,j<esz→MS (el i j) (el' i j)):IS where
 act st:=match get st.heap b with|some x=>[.ob x]|none=>[.b false]
 want _:=[.ob (some (.arr E esz len el))]
 nxt st:=⟨st.slots,(b,some (.rows E esz len el' none))::st.heap⟩
 ok B N L st hs:=by
  split at hs
  ·rename_i x h1
   simp only [List.cons.injEq,Ck.ob.injEq,and_true]at hs
   subst hs
   exact nH.RY h1 h
  ·simp at hs
def UO (sz:Nat) (l:List EV) (i j:Nat):EV:=l.getD (i*sz+j) (.d .nilp)
def IS.fo (b c E esz len i j E1 esz1 n:Nat) (nn:Bool) (el el':Nat→Nat→EV) (el1:Nat→Nat→DV) (h: ∀i',i'<len→ ∀j',j'<esz→Oq el i j (.row E1 esz1 n el1) i' j'=el' i' j'):IS where
 act st:=match get st.heap b,get st.heap c with|some x,some y=>[.ob x, .ob y]|_,_=>[.b false]
 want _:=[.ob (some (.rows E esz len el (some (i,j, .own c nn n)))), .ob (some (.arr E1 esz1 n el1))]
 nxt st:=⟨st.slots,(b,some (.rows E esz len el' none))::(c,none)::st.heap⟩
 ok B N L st hs:=by
  split at hs
  ·rename_i x y h1 h2
   simp only [List.cons.injEq,Ck.ob.injEq,and_true]at hs
   obtain⟨rfl,rfl⟩:=hs
   exact nH.fold h1 h2 h
  ·simp at hs
end Sg
