import Derived.Test.YtbjhjmcpfmhgdaaGreatWpLd
import Derived.Shelf.Slices.Delete
import Derived.Shelf.Slices.Empties
set_option linter.all false
namespace Sg
open Go Go.Sort Go.Proofs Go.Shelf
variable {P:Program}
def IS.dn (b:Nat):IS where
 act st:=match get st.heap b with|none=>[.b true]|some _=>[.b false]
 want _:=[.b true]
 nxt st:=⟨st.slots,(b,none)::st.heap⟩
 ok B N L st hs:=by
  split at hs
  ·rename_i h1
   intro a w hc
   obtain⟨⟨ρ,F,hfr,⟨ft,hi⟩,hs,dn⟩,hid,sz⟩:=hc
   have hu: ∀x,aP ((b,none)::st.heap) x=if b=x then some none else aP st.heap x:=fun x=>av _ _ _ _
   have ho: ∀x ob,aP ((b,none)::st.heap) x=some (some ob)→aP st.heap x=some (some ob):=fun x ob hh=>by
    rw [hu]at hh
    split at hh
    ·cases hh
    ·exact hh
   refine⟨⟨ρ,F,hfr,⟨ft,fun x ob hh=>hi.obj x ob (ho x ob hh),fun x ob k hh=>hi.blk x ob k (ho x ob hh),fun x y o1 o2 k h1 h2=>hi.dis x y o1 o2 k (ho _ _ h1) (ho _ _ h2),fun x hh=> ?_,hi.gl⟩,hs,dn⟩,hid,sz⟩
   rw [hu]at hh
   split at hh
   ·cases hh
   ·exact hi.fresh x hh
  ·simp at hs
def FnD (P:Program) (f:FuncId) (args:List SV) (hin hout:List (Nat × Option Ob)):Prop:=
 Enters P f∧ ∀(B:Base) (vs:List Value),(∀k,B.F k→k<B.w.heap.size)→HI B B.ρ B.F B.w (aP hin)→dU B.ρ B.F B.w args vs→
  CallsDIn Fence.wide 0 P f vs.toArray .returning B.w fun e u' w'=>u'= .returning∧ ∃v,e= .returned v∧Post B (.eT []) hout v w'
section
variable {P:Program} {T:List (Nat × TI)}
theorem FnD.yL {f:FuncId} {args:List SV} {hin hout:List (Nat × Option Ob)} (l:List (Nat × Nat)) (h:FnD P f args hin hout):FnD P f (args.map (SV.ren (swp l))) (qh (swp l) hin) (qh (swp l) hout):=by
 have r:=Gd l
 refine⟨h.1,fun B vs hF hi hr=> ?_⟩
 refine(h.2 {B with ρ:=fun x=>B.ρ (swp l x)} vs hF ((Dj r).1 hi) (rD (σ:=swp l).1 hr)).mono ?_
 rintro e u' w' ⟨rfl,v,rfl,ρ',F',hf,g1,g2⟩
 refine⟨rfl,v,rfl,fun x=>ρ' (vV l x),F', ?_, ?_, ?_⟩
 ·refine⟨hf.os,hf.tape,hf.output,hf.size,hf.mem,fun b p hb=>hf.rho (vV l b) p ?_,hf.fz,hf.bf⟩
  show B.ρ (swp l (vV l b))=some p
  rw [r.st];exact hb
 ·refine(Dj (ρ0:=fun x=>B.ρ (swp l x)) r).2 ?_
  have:(fun x=>(fun x=>ρ' (vV l x)) (swp l x))=ρ':=by funext x;simp [r.ts]
  rw [this];exact g1
 ·obtain⟨us,e1,e2⟩:=g2
  match us,e2 with
  |[],_=>exact⟨[],e1,trivial⟩
end
section
variable {P:Program} {T:List (Nat × TI)} {B:Base} {N:Nat} {L:List Nat}
def Base.re (B:Base) (w:World) (ρ:Nat→Option Pl) (F:Nat→Prop) (D:List Deferred):Base:=⟨w,ρ,F,fun k=> ¬ F k∧(B.Ft k∨B.w.heap.size≤k),w.heap.size,D⟩
theorem HI.re {w:World} {ρ:Nat→Option Pl} {F:Nat→Prop} {h:Hp} (D:List Deferred) (hi:HI B ρ F w h):HI (B.re w ρ F D) ρ F w h:=by
 obtain⟨ft,hi⟩:=hi
 exact⟨ft,hi.obj,fun b ob k hb hk=> ⟨(hi.blk b ob k hb hk).1,(hi.blk b ob k hb hk).2.1, .inl ⟨(hi.blk b ob k hb hk).2.1,(hi.blk b ob k hb hk).2.2⟩⟩,hi.dis,hi.fresh,hi.gl⟩
end
section
variable {P:Program} {T:List (Nat × TI)}
end
end Sg
