import Derived.Test.YtklofnlffikpgaaGreatSlLd
import Derived.Shelf.Slices.Delete
import Derived.Shelf.Slices.Empties
set_option linter.all false
namespace Sg
open Go Go.Sort Go.Proofs Go.Shelf
variable {P:Program}
theorem afo (l:List Int) (i:Nat):l.toArray[i]! =l.getD i 0:=by
 simp [cU]
theorem VQ {ρ0:Ren} (L:Lays2.n23 P ρ0) {E:TypeId} (f:Nat) (hf:ρ0.f 23=f) (hen:Enters P f) {nn:Bool} (l:List Int) (i j:Int) {r:List Int} (hr:XQ l i j=some r):
  Fn P f [.one (.own 0 nn l.length), .one (.d (.int .i64 i)), .one (.d (.int .i64 j))] [(0,some (.arr E 1 l.length (aj (aG .i64) l)))] (.v (.one (.own 0 nn r.length))) [(0,some (.arr E 1 r.length (aj (aG .i64) r)))]:=by
 subst hf
 have hij:0<=i/\i<=j/\j<=(l.length:Int):=by
  unfold XQ at hr
  cases hq:decide (0<=i/\i<=j/\j<=(l.length:Int))with
  |true=>exact of_decide_eq_true hq
  |false=>rw [hq]at hr;cases hr
 unfold XQ at hr
 rw [bx hij]at hr
 cases hr
 obtain⟨h0,h1,h2⟩:=hij
 obtain⟨i,rfl⟩:=Int.eq_ofNat_of_zero_le h0
 obtain⟨j,rfl⟩:=Int.eq_ofNat_of_zero_le (Int.le_trans h0 h1)
 simp only [bw]at*
 have h1':i<=j:=by omega
 have h2':j<=l.length:=by omega
 refine⟨hen,fun B vs hF hi ha=> ?_⟩
 match vs,ha with
 |[v0,v1,v2],⟨g0,g1,g2,_⟩=>
 cases g1;cases g2
 have hz:(l.take i++l.drop j).length=l.length - (j - i):=by simp;omega
 rcases g0 with⟨blk,base,cap,hb,rfl⟩|⟨hnn,hb,hl0,rfl⟩
 ·obtain⟨ft,hi⟩:=hi
  have hob:aZ [(0,some (Ob.arr E 1 l.length (aj (aG .i64) l)))] 0=some (some (.arr E 1 l.length (aj (aG .i64) l))):=rfl
  rcases hi.obj 0 _ hob with⟨hn,_⟩|⟨blk',base',cap',hb',hS,vs,hhp,hroom,hlc,hcm,hel⟩
  ·rw [hb]at hn;cases hn
  rw [hb]at hb';cases hb'
  obtain⟨hlt,hnF,hFt⟩:=hi.blk 0 _ blk hob hS
  have hFt:B.Ft blk:=hFt.resolve_right (by omega)
  have hH:Holds (Value.int .i64) B.w blk base l.toArray:=by
   intro t ht
   refine⟨?_,by simp [World.frozen?,hhp]⟩
   obtain⟨u,hu,hru⟩:=hel t (by simpa using ht) 0 (by omega)
   cases hru
   simp only [World.cell?,hhp]
   rw [afo]
   simpa [aj,aG,at',cU]using hu
  have key:=Any.slices_Delete_int L blk base cap i j l B.w hH hlc (dt hcm (by decide)) h1' h2'
  refine key.mono ?_
  rintro e w' ⟨rfl,q,hw⟩
  generalize hm:l.take i++l.drop j++List.replicate (j - i) 0=m at hw
  have hml:m.length=l.length:=by rw [<-hm];simp;omega
  have hH':Holds (Value.int .i64) w' blk base m.toArray:=by rw [hw];exact holds_putRow _ _ blk base l.toArray _ (holds_ahead _ B.w q blk base _ hH) (by simp [hml])
  have hsz:B.w.heap.size<=w'.heap.size:=by rw [hw,size_putRow];exact cx _
  have hold: ∀q,q<B.w.heap.size->q≠blk->w'.heap[q]? =B.w.heap[q]? :=fun q' hq hne=>by
   rw [hw]
   show((B.w.heap.modify blk _)[q']?)=_
   rw [Array.getElem?_modify,ce (Ne.symm hne)]
  have hnew:w'.heap[blk]? =some (.cells (putCells (Value.int .i64) base m.toArray vs.toArray) E (0,0)):=by
   rw [hw]
   show((B.w.heap.modify blk _)[blk]?)=_
   rw [Array.getElem?_modify,ci rfl,hhp]
   rfl
  have hos:w'.os=B.w.os/\w'.tape=B.w.tape/\w'.output=B.w.output:=by rw [hw];exact⟨rfl,rfl,rfl⟩
  have hget: ∀b ob ob',aZ [(0,some ob')] b=some (some ob)->b=0/\ob=ob':=fun b ob ob' h=>by
   unfold aZ at h;rw [aB]at h;split at h
   ·rename_i e;cases h;exact⟨e.symm,rfl⟩
   ·cases h
  refine⟨_,B.ρ,B.F,rfl,⟨hos.1,hos.2.1,hos.2.2,hsz,fun q hq hn=>hold q hq fun e=>hn (e ▸ hFt),fun _ _ h=>h,fun q hq=> ⟨dq (hF q hq) hsz, .inl hq⟩,fun _ h=>h⟩,⟨ft,fun b ob h=> ?_,fun b ob q h hq=> ?_,fun b b' ob ob' q h h' hq hq'=> ?_,fun b h=> ?_,fun x hx=> ⟨(hi.gl x hx).1,by rw [hold _ (hF _ (hi.gl x hx).1) (fun e=>hnF (e ▸ (hi.gl x hx).1))];exact(hi.gl x hx).2⟩⟩, ?_⟩
  ·obtain⟨rfl,rfl⟩:=hget _ _ _ h
   refine .inr ⟨blk,base,cap,hb,hS,(putCells (Value.int .i64) base m.toArray vs.toArray).toList,hnew, ?_,by omega,hcm,fun i' hi' j' hj=> ?_⟩
   ·simpa [putCells]using hroom
   ·have hj0:j'=0:=by omega
    subst hj0
    have:=(hH' i' (by simp;omega)).1
    simp only [World.cell?,hnew]at this
    refine⟨_,by simpa using this, ?_⟩
    show _=Value.int .i64 _
    congr 1
    rw [<-hm]
    unfold at'
    rw [cU,cV (by omega)]
    rfl
  ·obtain⟨rfl,rfl⟩:=hget _ _ _ h
   obtain⟨x1,x2,x3⟩:=hi.blk 0 _ q hob hq
   exact⟨dq x1 hsz,x2,x3⟩
  ·rw [(hget _ _ _ h).1,(hget _ _ _ h').1]
  ·refine hi.fresh b ?_
   unfold aZ at h ⊢;rw [aB]at h ⊢
   split at h
   ·cases h
   ·rename_i hne;rw [ce hne];rfl
  ·exact .inl ⟨blk,base,cap,hb,by rw [hz]⟩
 ·have hl1:l=[]:=List.eq_nil_of_length_eq_zero hl0
  subst hl1
  have hj:j=0:=by simpa using h2'
  subst hj
  have hi0:i=0:=by omega
  subst hi0
  refine(Any.slices_Delete_int_empty L none 0 B.w).mono ?_
  rintro e w' ⟨rfl,rfl⟩
  exact⟨_,B.ρ,B.F,rfl,⟨rfl,rfl, .refl _,cx _,fun _ _ _=>rfl,fun _ _ h=>h,fun q hq=> ⟨hF q hq, .inl hq⟩,fun _ h=>h⟩,hi, .inr ⟨hnn,hb,rfl,rfl⟩⟩
end Sg
