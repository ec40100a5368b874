import Derived.Test.YtboodeobmgjjpaaGreatReLc
import Derived.Shelf.SlSortCmp.NoneTotal
set_option linter.all false
namespace Sg
open Go
def Ku:List Nat→List (Nat × TV)→List (Nat × TV)
 |[],_=>[]
 |t::ks,l=>match get l t with|some v=>(t,v)::Ku ks l|none=>Ku ks l
theorem Cq {l:List (Nat × TV)}: ∀{ks:List Nat} {t:Nat} {v:TV},get (Ku ks l) t=some v→get l t=some v
 |[],_,_,h=>by cases h
 |k::ks,t,v,h=>by
  unfold Ku at h
  split at h
  ·rename_i v' hv
   rw [aH]at h
   split at h
   ·rename_i e;subst e;cases h;exact hv
   ·exact Cq h
  ·exact Cq h
def IS.dp (ks:List Nat):IS where
 act _:=[]
 want _:=[]
 nxt st:=⟨Ku ks st.slots,st.heap⟩
 ok B N L st _:=fun a w hc=> ⟨by
  obtain⟨ρ,F,h1,h2,h3,h4⟩:=hc.ex
  exact⟨ρ,F,h1,h2,fun t tv ht=>h3 t tv (Cq ht),h4⟩,hc.ids,hc.sz⟩
def Sc.so {R:Type} (t b:Nat) (nn:Bool) (n m:Nat) (j:Nat) (k:Sc R):Sc R:=
 .wi j {
  p:=n=m,act:=(fun st=>match get st.slots t with|some w=>[.tv w, .b true]|none=>[.tv (.v (.one (.own b nn n))), .b false]),want:=fun _=>[.tv (.v (.one (.own b nn n))), .b true],
  nxt:=fun st=> ⟨Dz t (.v (.one (.own b nn m))) st.slots,st.heap⟩,
  ok:=fun hp B N L st hs=>by
   have:=hp
   subst this
   cases hg:get st.slots t with
   |none=>rw [hg]at hs;simp at hs
   |some w=>
    rw [hg]at hs
    simp only [List.cons.injEq,Ck.tv.injEq,and_true]at hs
    subst hs
    exact Sg.us t _ hg (.refl _)} k
def mJ (l:List Bool) (j:Nat):DV:= .bool (l.getD j false)
def QV (n:Nat) (l:List Bool):List DV:=bM (mJ l) 0 n
def Zh (n:Nat) (l:List Bool):List CV:=(QV n l).map .d
def QZ (a b:List Bool):Nat→Nat→Bool
 |_,0=>true
 |i,n+1=>(a.getD i false==b.getD i false) && QZ a b (i+1) n
def sj (n:Nat) (a b:List Bool):Bool:=QZ a b 0 n
theorem Gt (a b:List Bool): ∀(n i:Nat),jv (bM (mJ a) i n) (bM (mJ b) i n)=some (QZ a b i n)
 |0,_=>rfl
 |n+1,i=>by
  show(match PD (mJ a i) (mJ b i),jv (bM (mJ a) (i+1) n) (bM (mJ b) (i+1) n)with|some x,some y=>some (x && y)|_,_=>none)=_
  rw [Gt a b n (i+1)]
  rfl
theorem Cf (n:Nat) (a b:List Bool):jv (bM (mJ a) 0 n) (bM (mJ b) 0 n)=some (sj n a b):=Gt a b n 0
theorem Fp (l:List Bool): ∀(n i:Nat),aB (List.replicate n none) (bM (mJ l) i n)=true
 |0,_=>rfl
 |n+1,i=>Fp l n (i+1)
theorem zA (n:Nat) (l:List Bool):aB (List.replicate n none) (bM (mJ l) 0 n)=true:=Fp l n 0
def FY (n:Nat) (l:List Bool) (lo:Nat) (x:List Bool) (m:Nat):List Bool:=(List.range n).map fun i=>bif Nat.ble lo i && Nat.blt i (lo+m)then x.getD (i - lo) false else l.getD i false
theorem MN (n:Nat) (l:List Bool) (lo:Nat) (x:List Bool) (m:Nat): ∀i,i<n→ ∀j,j<1→jD (Az (ay ai l) lo (ay ai x) m i j) (ay ai (FY n l lo x m) i j):=by
 intro i hi j hj
 have e:Az (ay ai l) lo (ay ai x) m i j=ay ai (FY n l lo x m) i j:=by
  unfold Az ay ai at' FY
  rw [List.getD_eq_getElem?_getD,List.getD_eq_getElem?_getD,List.getD_eq_getElem?_getD,List.getElem?_map,List.getElem?_range hi]
  show _=DV.bool (bif _ then _ else _)
  cases(Nat.ble lo i && Nat.blt i (lo+m))with
  |true=>simp only [cond_true,List.getD_eq_getElem?_getD];rfl
  |false=>simp only [cond_false,List.getD_eq_getElem?_getD];rfl
 rw [e]
 exact .refl _
theorem Vm (n:Nat):aT n 1 (fun i _=>(List.replicate n (DV.bool false)).getD i .nilp) (ay ai (List.replicate n false)):=by
 intro i hi j hj
 unfold ay ai at'
 simp [List.getD_eq_getElem?_getD,List.getElem?_replicate,hi]
def nR {α:Type} [Inhabited α] (l:List α) (lo n:Nat):List α:=(List.range n).map fun i=>at' l (i+lo)
theorem lW {α:Type} [Inhabited α] (l:List α) (lo n:Nat):(nR l lo n).length=n:=by simp [nR]
theorem Us {α:Type} [Inhabited α] (cf:α→Nat→DV) (l:List α) (lo n:Nat) (m:Nat): ∀i,i<n→ ∀j,j<m→jD (ay cf l (i+lo) j) (ay cf (nR l lo n) i j):=by
 intro i hi j hj
 have e:ay cf (nR l lo n) i j=ay cf l (i+lo) j:=by
  unfold ay
  congr 1
  unfold nR
  rw [show at' ((List.range n).map fun i=>at' l (i+lo)) i=((List.range n).map fun i=>at' l (i+lo)).getD i default from rfl,List.getD_eq_getElem?_getD,List.getElem?_map,List.getElem?_range hi]
  rfl
 rw [e]
 exact .refl _
theorem VT {α:Type} [Inhabited α] (cf:α→Nat→DV) (l:List α) (n:Nat) (m:Nat): ∀i,i<n→ ∀j,j<m→jD (ay cf l i j) (ay cf (nR l 0 n) i j):=Us cf l 0 n m
theorem XR {α:Type} [Inhabited α] (c:α→Nat→DV) (l m:List α) (n esz:Nat) {raw:Nat→Nat→DV} (h: ∀i,i<n→ ∀j,j<esz→jD (raw i j) (ay c m i j)):
  ∀i,i<l.length+n→ ∀j,j<esz→jD (uT (ay c l) l.length raw i j) (ay c (l++m) i j):=by
 intro i hi j hj
 unfold uT
 by_cases hl:i<l.length
 ·rw [if_pos hl]
  show jD (c (at' l i) j) (c (at' (l++m) i) j)
  rw [qR hl];exact .refl _
 ·rw [if_neg hl]
  show jD _ (c (at' (l++m) i) j)
  rw [qg (by omega)]
  exact h (i - l.length) (by omega) j hj
end Sg

namespace Sg
open Go Go.Sort Go.Proofs Go.Shelf
theorem TN {w w':World} (ho:w'.os=w.os) (ht:w'.tape=w.tape) (hp:w'.output=w.output) (hd:w.drawn≤w'.drawn) (hs:w.heap.size≤w'.heap.size)
  (hm: ∀k,k<w.heap.size→w'.heap[k]? =w.heap[k]?): ∃q os',w'=Go.Sort.grow (w.drewN q) os':=by
 refine⟨w'.drawn - w.drawn,w'.heap.extract w.heap.size w'.heap.size, ?_⟩
 obtain⟨h',t',d',o',p'⟩:=w'
 obtain⟨h,t,d,o,p⟩:=w
 have ho:o'=o:=ho
 have ht:t'=t:=ht
 have hp:p'=p:=hp
 have hd:d≤d':=hd
 have hs:h.size≤h'.size:=hs
 have hm: ∀k,k<h.size→h'[k]? =h[k]? :=hm
 subst ho ht hp
 have e1:h'=h++h'.extract h.size h'.size:=by
  apply Array.ext_getElem?
  intro i
  rw [Array.getElem?_append]
  split
  ·rename_i hi;exact hm i hi
  ·rename_i hi
   rw [Array.getElem?_extract]
   by_cases h2:i<h'.size
   ·rw [if_pos (by omega)];congr 1;omega
   ·rw [if_neg (by omega)];exact Array.getElem?_eq_none (by omega)
 have e2:d'=d+(d' - d):=by omega
 show(⟨h',t',d',o',p'⟩:World)=⟨h++h'.extract h.size h'.size,t',d+(d' - d),o',p'⟩
 rw [←e1,←e2]
variable {P:Program} {α:Type} [Inhabited α]
theorem P5 {g:Nat} {enc:α→List Value} {k:Nat} {cf:α→α→Int} {ec:α→List CV}
  (hc: ∀x y:α,Fn P g [.agg (ec x), .agg (ec y)] [] (.v (.one (.d (.int .i64 (cf x y))))) [])
  (he: ∀F w x,bU (fun _=>none) F w (ec x) (enc x)) (blk off size:Nat) (w:World):CmpLays P g #[] enc k cf blk off size w:=by
 intro m os dk hs x y
 generalize sortWorldK enc k w blk off m dk os=W
 rw [Array.append_empty]
 refine((hc x y).2 ⟨W,fun _=>none,fun _=>False,fun _=>False,0⟩ [.agg (enc x).toArray, .agg (enc y).toArray] (fun _ h=>h.elim) ⟨fun _ _=>False, ?_⟩ ⟨⟨_,rfl,he _ _ x⟩,⟨_,rfl,he _ _ y⟩,trivial⟩).mono ?_
 ·exact⟨fun b ob h=>(by cases h),fun b ob k h=>(by cases h),fun b b' ob ob' k h=>(by cases h),fun _ _=>rfl⟩
 ·rintro e w' ⟨v,ρ',F',rfl,fr,_,hv⟩
  have hv:v= .int .i64 (cf x y):=hv
  subst hv
  exact⟨rfl,TN fr.os fr.tape fr.output.1 fr.output.2 fr.size fun k hk=>fr.mem k hk fun q=>q⟩
theorem Un {l:List α} (i:Nat):l.toArray[i]! =at' l i:=by
 unfold at'
 simp [List.getD_eq_getElem?_getD]
theorem UY {ρ0:Ren} (L:SlLaysF0.n6 P ρ0) (k:Nat) (aE: ∀w,(isAgg (ρ0.t 24)).run P w= .ok true w) (zE: ∀w,(Go.sizeOf (ρ0.t 24)).run P w= .ok k w)
  (enc:α→List Value) (hk: ∀x,(enc x).length=k) (h1: ∀x,∀v∈enc x,v.oneCell'=true) (cf:α→α→Int) (hO:SWO (ltOf cf))
  (hT: ∀x y,(ltOf cf) x y=false→(ltOf cf) y x=false→x=y) {g:Nat} {ec:α→List CV}
  (hc: ∀x y:α,Fn P g [.agg (ec x), .agg (ec y)] [] (.v (.one (.d (.int .i64 (cf x y))))) [])
  (he: ∀F w x,bU (fun _=>none) F w (ec x) (enc x)) (eg: ∀args w,(callFunc g args).run P w= .ok (.enter g args) w)
  {E:TypeId} {c:α→Nat→DV} (hd: ∀F w (x:α) j,j<k→ ∀v,cO F w (c x j) v↔v=(enc x)[j]!)
  (f:Nat) (hf:ρ0.f 6=f) (hen:Enters P f) {nn:Bool} {cap0:Nat→DV} (l:List α) {r:List α} (hr:(bif decide (l.length<4611686018427387904)then some (l.mergeSort fun x y=> !(ltOf cf) y x)else none)=some r):
  Fn P f [.one (.own 0 nn l.length), .one (.d (.fn g 0 cap0))] [(0,some (.arr E k l.length (ay c l)))] (.iL []) [(0,some (.arr E k r.length (ay c r)))]:=by
 subst hf
 have hsz0:l.length<4611686018427387904:=by
  cases hq:decide (l.length<4611686018427387904)with
  |true=>exact of_decide_eq_true hq
  |false=>rw [hq]at hr;cases hr
 rw [decide_eq_true hsz0]at hr
 cases hr
 refine⟨hen,fun B vs hF hi ha=> ?_⟩
 match vs,ha with
 |[v0,v1],⟨h0,h2,_⟩=>
 obtain⟨cs,rfl,hl,_⟩:=h2
 have hcs:cs=[]:=List.eq_nil_of_length_eq_zero hl
 subst hcs
 have hz:(l.mergeSort fun x y=> !(ltOf cf) y x).length=l.length:=List.length_mergeSort _
 rcases h0 with⟨blk,base,cap,hb,rfl⟩|⟨_,hb,hl0,rfl⟩
 ·obtain⟨ft,hi⟩:=hi
  have hob:bG [(0,some (Ob.arr E k l.length (ay c l)))] 0=some (some (.arr E k l.length (ay c l))):=rfl
  rcases hi.obj 0 _ hob with⟨hn,_⟩|⟨blk',base',cap',hb',hS,vs,hhp,hroom,hlc,hcm,hel⟩
  ·rw [hb]at hn;cases hn
  rw [hb]at hb';cases hb'
  obtain⟨hlt,hnF,hFt⟩:=hi.blk 0 _ blk hob hS
  have hFt:B.Ft blk:=hFt.resolve_right (by omega)
  have hcell: ∀t,t<l.length*k→B.w.cell? ⟨blk,base+t,none⟩=some (Go.Sort.flatK enc k l.toArray)[t]! :=by
   intro t ht
   have k0:0<k:=by
    rcases Nat.eq_zero_or_pos k with h|h
    ·subst h;simp at ht
    ·exact h
   have hq:t / k<l.length:=Nat.div_lt_of_lt_mul (by rwa [Nat.mul_comm]at ht)
   obtain⟨u,hu,hru⟩:=hel (t / k) hq (t % k) (Nat.mod_lt _ k0)
   rw [get_flatK _ _ _ _ ht,Un]
   have:=(hd _ _ _ _ (Nat.mod_lt _ k0) _).1 hru
   subst this
   simp only [World.cell?,hhp]
   rw [show t / k*k+t % k=t by rw [Nat.mul_comm];exact Nat.div_add_mod t k]at hu
   simpa using hu
  have hfrz: ∀a:Addr,a.block=blk→B.w.frozen? a=false:=fun a e=>by simp [World.frozen?,e,hhp]
  have hH:HoldsK enc k B.w blk base l.toArray:=fun t ht=> ⟨hcell t (by rw [size_flatK]at ht;exact ht),hfrz _ rfl⟩
  have hs:l.toArray.size=l.length:=by simp
  have key:=AnyQ.slices_SortFunc_total L k aE zE enc hk h1 cf hO g #[] blk base cap l.toArray B.w eg (P5 hc he blk base _ B.w) hH hlt (by rw [hs];exact hsz0) hT
  rw [hs]at key
  refine key.mono ?_
  rintro e w' ⟨rfl,n,os,hw⟩
  have hd':(l.toArray.toList.mergeSort fun x y=> !(ltOf cf) y x)=l.mergeSort fun x y=> !(ltOf cf) y x:=rfl
  rw [hd']at hw
  generalize hm:(l.mergeSort fun x y=> !(ltOf cf) y x)=m at hw hz ⊢
  have hH':HoldsK enc k w' blk base m.toArray:=by rw [hw];exact holdsK_sortWorldK_c enc k B.w blk base l.toArray m.toArray n os hH hlt (by simp [hz])
  have hsz:B.w.heap.size≤w'.heap.size:=by rw [hw];exact size_sortWorldK_c enc k B.w blk base n m.toArray os
  have hold: ∀q,q<B.w.heap.size→q≠blk→w'.heap[q]? =B.w.heap[q]? :=fun q hq hne=>by
   rw [hw]
   unfold sortWorldK
   rw [heap_grow_old _ _ (by show q<(putRow id (Go.Sort.ahead B.w n) blk base _).heap.size;rw [Go.Sort.size_putRow];exact hq)]
   show((B.w.heap.modify blk _)[q]?)=_
   rw [Array.getElem?_modify,if_neg (Ne.symm hne)]
  have hnew:w'.heap[blk]? =some (.cells (putCells id base (Go.Sort.flatK enc k m.toArray) vs.toArray) E (0,0)):=by
   rw [hw]
   unfold sortWorldK
   rw [heap_grow_old _ _ (by show blk<(putRow id (Go.Sort.ahead B.w n) blk base _).heap.size;rw [Go.Sort.size_putRow];exact hlt)]
   show((B.w.heap.modify blk _)[blk]?)=_
   rw [Array.getElem?_modify,if_pos rfl,hhp]
   rfl
  have hos:w'.os=B.w.os∧w'.tape=B.w.tape∧w'.output=B.w.output∧B.w.drawn≤w'.drawn:=by rw [hw];exact⟨rfl,rfl,rfl,Nat.le_add_right _ _⟩
  have hget: ∀b ob ob',bG [(0,some ob')] b=some (some ob)→b=0∧ob=ob':=fun b ob ob' h=>by
   unfold bG at h;rw [aH]at h;split at h
   ·rename_i e;cases h;exact⟨e.symm,rfl⟩
   ·cases h
  refine⟨.tuple #[],B.ρ,B.F,rfl,⟨hos.1,hos.2.1,hos.2.2,hsz,fun q hq hn=>hold q hq fun e=>hn (e ▸ hFt),fun _ _ h=>h,fun q hq=> ⟨Nat.lt_of_lt_of_le (hF q hq) hsz, .inl hq⟩,fun _ h=>h⟩,⟨ft,fun b ob h=> ?_,fun b ob q h hq=> ?_,fun b b' ob ob' q h h' hq hq'=> ?_,fun b h=> ?_⟩,⟨[],rfl,trivial⟩⟩
  ·obtain⟨rfl,rfl⟩:=hget _ _ _ h
   refine .inr ⟨blk,base,cap,hb,hS,(putCells id base (Go.Sort.flatK enc k m.toArray) vs.toArray).toList,hnew, ?_,by omega,hcm,fun i hi' j hj=> ?_⟩
   ·simp [putCells];exact hroom
   ·have ht:i*k+j<m.length*k:=by
     have:=Nat.mul_le_mul_right k (show i+1≤m.length from hi');rw [Nat.add_mul,Nat.one_mul]at this;omega
    have:=(hH' (i*k+j) (by simpa using ht)).1
    simp only [World.cell?,hnew]at this
    refine⟨(Go.Sort.flatK enc k m.toArray)[i*k+j]!,by simpa using this, ?_⟩
    rw [get_flatK _ _ _ _ ht,Un]
    have e1:(i*k+j) / k=i:=(blk_iff k i _ (by omega)).1 ⟨by omega,by omega⟩
    have e2:(i*k+j) % k=j:=by rw [Nat.mod_eq_sub_div_mul,e1];omega
    rw [e1,e2]
    exact(hd _ _ _ _ hj _).2 rfl
  ·obtain⟨rfl,rfl⟩:=hget _ _ _ h
   obtain⟨x1,x2,x3⟩:=hi.blk 0 _ q hob hq
   exact⟨Nat.lt_of_lt_of_le x1 hsz,x2,x3⟩
  ·rw [(hget _ _ _ h).1,(hget _ _ _ h').1]
  ·refine hi.fresh b ?_
   unfold bG at h ⊢;rw [aH]at h ⊢
   split at h
   ·cases h
   ·rename_i hne;rw [if_neg hne];rfl
 ·have hl1:l=[]:=List.eq_nil_of_length_eq_zero hl0
  subst hl1
  refine(AnyF.slices_SortFunc_none L none 0 (.func (.func g) #[] #[]) B.w).mono ?_
  rintro e w' ⟨rfl,rfl⟩
  have hm:(([]:List α).mergeSort fun x y=> !(ltOf cf) y x)=[]:=by simp
  rw [hm]
  exact⟨.tuple #[],B.ρ,B.F,rfl,⟨rfl,rfl, .refl _,Nat.le_refl _,fun _ _ _=>rfl,fun _ _ h=>h,fun q hq=> ⟨hF q hq, .inl hq⟩,fun _ h=>h⟩,hi,⟨[],rfl,trivial⟩⟩
end Sg
