import Derived.Test.YtbjhjmcpfmhgdaaGreatWsLd
import Derived.Shelf.SlSortCmp.NoneTotal
import Derived.OrdersHeld
import Derived.Test.YtbjhjmcpfmhgdaaGreatProg
import Derived.ProofKit
import Derived.Sort.Grow
import Derived.Shelf.SlSortCmp.InsertionK
set_option linter.all false
namespace Sg
open Go Go.Sort Go.Proofs Go.Shelf
variable {P:Program} {α:Type} [Inhabited α]
theorem Qe {l:List α} (i:Nat):l.toArray[i]! =at' l i:=by
 unfold at'
 simp [List.getD_eq_getElem?_getD]
theorem VP {ρ0:Ren} (L:SlLaysF0.n6 P ρ0) (k:Nat) (aE: ∀w,(isAgg (ρ0.t 24)).run P w= .ok true w) (zE: ∀w,(Go.sizeOf (ρ0.t 24)).run P w= .ok k w)
  (enc:α→List Value) (hk: ∀x,(enc x).length=k) (h1: ∀x,∀v∈enc x,v.oneCell'=true) (cf:α→α→Int) (hO:SWO (ltOf cf))
  (hT: ∀x y,(ltOf cf) x y=false→(ltOf cf) y x=false→x=y) {g:Nat}
  (hcmp: ∀blk off size w,CmpLays P g #[] enc k cf blk off size w) (eg: ∀args w,(callFunc g args).run P w= .ok (.enter g args) w)
  {E:TypeId} {c:α→Nat→DV} (hd: ∀F w (x:α) j,j<k→ ∀v,bn F w (c x j) v↔v=(enc x)[j]!)
  (f:Nat) (hf:ρ0.f 6=f) (hen:Enters P f) {nn:Bool} {cap0:Nat→DV} (l:List α) {r:List α} (hr:(bif decide (l.length<4611686018427387904)then some (l.mergeSort fun x y=> !(ltOf cf) y x)else none)=some r):
  Fn P f [.one (.own 0 nn l.length), .one (.d (.fn g 0 cap0))] [(0,some (.arr E k l.length (ah c l)))] (.bZ []) [(0,some (.arr E k r.length (ah c r)))]:=by
 subst hf
 have hsz0:l.length<4611686018427387904:=by
  cases hq:decide (l.length<4611686018427387904)with
  |true=>exact of_decide_eq_true hq
  |false=>rw [hq]at hr;cases hr
 rw [decide_eq_true hsz0]at hr
 cases hr
 refine⟨hen,fun B vs hF hi ha=> ?_⟩
 match vs,ha with
 |[v0,v1],⟨h0,h2,_⟩=>
 obtain⟨cs,rfl,hl,_⟩:=h2
 have hcs:cs=[]:=List.eq_nil_of_length_eq_zero hl
 subst hcs
 have hz:(l.mergeSort fun x y=> !(ltOf cf) y x).length=l.length:=List.length_mergeSort _
 rcases h0 with⟨blk,base,cap,hb,rfl⟩|⟨_,hb,hl0,rfl⟩
 ·obtain⟨ft,hi⟩:=hi
  have hob:aP [(0,some (Ob.arr E k l.length (ah c l)))] 0=some (some (.arr E k l.length (ah c l))):=rfl
  rcases hi.obj 0 _ hob with⟨hn,_⟩|⟨blk',base',cap',hb',hS,vs,hhp,hroom,hlc,hcm,hel⟩
  ·rw [hb]at hn;cases hn
  rw [hb]at hb';cases hb'
  obtain⟨hlt,hnF,hFt⟩:=hi.blk 0 _ blk hob hS
  have hFt:B.Ft blk:=hFt.resolve_right (by omega)
  have hcell: ∀t,t<l.length*k→B.w.cell? ⟨blk,base+t,none⟩=some (Go.Sort.flatK enc k l.toArray)[t]! :=by
   intro t ht
   have k0:0<k:=by
    rcases Nat.eq_zero_or_pos k with h|h
    ·subst h;simp at ht
    ·exact h
   have hq:t / k<l.length:=Nat.div_lt_of_lt_mul (by rwa [Nat.mul_comm]at ht)
   obtain⟨u,hu,hru⟩:=hel (t / k) hq (t % k) (Nat.mod_lt _ k0)
   rw [get_flatK _ _ _ _ ht,Qe]
   have:=(hd _ _ _ _ (Nat.mod_lt _ k0) _).1 hru
   subst this
   simp only [World.cell?,hhp]
   rw [show t / k*k+t % k=t by rw [Nat.mul_comm];exact Nat.div_add_mod t k]at hu
   simpa using hu
  have hfrz: ∀a:Addr,a.block=blk→B.w.frozen? a=false:=fun a e=>by simp [World.frozen?,e,hhp]
  have hH:HoldsK enc k B.w blk base l.toArray:=fun t ht=> ⟨hcell t (by rw [size_flatK]at ht;exact ht),hfrz _ rfl⟩
  have hs:l.toArray.size=l.length:=by simp
  have key:=AnyQ.slices_SortFunc_total L k aE zE enc hk h1 cf hO g #[] blk base cap l.toArray B.w eg (hcmp blk base _ B.w) hH hlt (by rw [hs];exact hsz0) hT
  rw [hs]at key
  refine key.mono ?_
  rintro e w' ⟨rfl,n,os,hw⟩
  have hd':(l.toArray.toList.mergeSort fun x y=> !(ltOf cf) y x)=l.mergeSort fun x y=> !(ltOf cf) y x:=rfl
  rw [hd']at hw
  generalize hm:(l.mergeSort fun x y=> !(ltOf cf) y x)=m at hw hz ⊢
  have hH':HoldsK enc k w' blk base m.toArray:=by rw [hw];exact holdsK_sortWorldK_c enc k B.w blk base l.toArray m.toArray n os hH hlt (by simp [hz])
  have hsz:B.w.heap.size≤w'.heap.size:=by rw [hw];exact size_sortWorldK_c enc k B.w blk base n m.toArray os
  have hold: ∀q,q<B.w.heap.size→q≠blk→w'.heap[q]? =B.w.heap[q]? :=fun q hq hne=>by
   rw [hw]
   unfold sortWorldK
   rw [heap_grow_old _ _ (by show q<(putRow id (Go.Sort.ahead B.w n) blk base _).heap.size;rw [Go.Sort.size_putRow];exact hq)]
   show((B.w.heap.modify blk _)[q]?)=_
   rw [Array.getElem?_modify,if_neg (Ne.symm hne)]
  have hnew:w'.heap[blk]? =some (.cells (putCells id base (Go.Sort.flatK enc k m.toArray) vs.toArray) E (0,0)):=by
   rw [hw]
   unfold sortWorldK
   rw [heap_grow_old _ _ (by show blk<(putRow id (Go.Sort.ahead B.w n) blk base _).heap.size;rw [Go.Sort.size_putRow];exact hlt)]
   show((B.w.heap.modify blk _)[blk]?)=_
   rw [Array.getElem?_modify,if_pos rfl,hhp]
   rfl
  have hos:w'.os=B.w.os∧w'.tape=B.w.tape∧OD w' B.w:=by rw [hw];exact⟨rfl,rfl,rfl,Nat.le_add_right _ _⟩
  have hget: ∀b ob ob',aP [(0,some ob')] b=some (some ob)→b=0∧ob=ob':=fun b ob ob' h=>by
   unfold aP at h;rw [ay]at h;split at h
   ·rename_i e;cases h;exact⟨e.symm,rfl⟩
   ·cases h
  refine⟨.tuple #[],B.ρ,B.F,rfl,⟨hos.1,hos.2.1,hos.2.2,hsz,fun q hq hn=>hold q hq fun e=>hn (e ▸ hFt),fun _ _ h=>h,fun q hq=> ⟨Nat.lt_of_lt_of_le (hF q hq) hsz, .inl hq⟩,fun _ h=>h⟩,⟨ft,fun b ob h=> ?_,fun b ob q h hq=> ?_,fun b b' ob ob' q h h' hq hq'=> ?_,fun b h=> ?_,fun x hx=> ⟨(hi.gl x hx).1,by rw [hold _ (hF _ (hi.gl x hx).1) (fun e=>hnF (e ▸ (hi.gl x hx).1))];exact(hi.gl x hx).2⟩⟩,⟨[],rfl,trivial⟩⟩
  ·obtain⟨rfl,rfl⟩:=hget _ _ _ h
   refine .inr ⟨blk,base,cap,hb,hS,(putCells id base (Go.Sort.flatK enc k m.toArray) vs.toArray).toList,hnew, ?_,by omega,hcm,fun i hi' j hj=> ?_⟩
   ·simp [putCells];exact hroom
   ·have ht:i*k+j<m.length*k:=by
     have:=Nat.mul_le_mul_right k (show i+1≤m.length from hi');rw [Nat.add_mul,Nat.one_mul]at this;omega
    have:=(hH' (i*k+j) (by simpa using ht)).1
    simp only [World.cell?,hnew]at this
    refine⟨(Go.Sort.flatK enc k m.toArray)[i*k+j]!,by simpa using this, ?_⟩
    rw [get_flatK _ _ _ _ ht,Qe]
    have e1:(i*k+j) / k=i:=(blk_iff k i _ (by omega)).1 ⟨by omega,by omega⟩
    have e2:(i*k+j) % k=j:=by rw [Nat.mod_eq_sub_div_mul,e1];omega
    rw [e1,e2]
    exact(hd _ _ _ _ hj _).2 rfl
  ·obtain⟨rfl,rfl⟩:=hget _ _ _ h
   obtain⟨x1,x2,x3⟩:=hi.blk 0 _ q hob hq
   exact⟨Nat.lt_of_lt_of_le x1 hsz,x2,x3⟩
  ·rw [(hget _ _ _ h).1,(hget _ _ _ h').1]
  ·refine hi.fresh b ?_
   unfold aP at h ⊢;rw [ay]at h ⊢
   split at h
   ·cases h
   ·rename_i hne;rw [if_neg hne];rfl
 ·have hl1:l=[]:=List.eq_nil_of_length_eq_zero hl0
  subst hl1
  refine(AnyF.slices_SortFunc_none L none 0 (.func (.func g) #[] #[]) B.w).mono ?_
  rintro e w' ⟨rfl,rfl⟩
  have hm:(([]:List α).mergeSort fun x y=> !(ltOf cf) y x)=[]:=by simp
  rw [hm]
  exact⟨.tuple #[],B.ρ,B.F,rfl,⟨rfl,rfl, .refl _,Nat.le_refl _,fun _ _ _=>rfl,fun _ _ h=>h,fun q hq=> ⟨hF q hq, .inl hq⟩,fun _ h=>h⟩,hi,⟨[],rfl,trivial⟩⟩
end Sg

namespace Sg
open Go Go.Sort Go.Proofs Go.Shelf
theorem Rs {w w':World} (os:w'.os=w.os) (tp:w'.tape=w.tape) (od:OD w' w) (sz:w.heap.size≤w'.heap.size) (mem: ∀k,k<w.heap.size→w'.heap[k]? =w.heap[k]?): ∃q os',w'=grow (w.drewN q) os':=by
 refine⟨w'.drawn - w.drawn,w'.heap.extract w.heap.size w'.heap.size, ?_⟩
 obtain⟨hu,hd⟩:=od
 have hh:w'.heap=w.heap++w'.heap.extract w.heap.size w'.heap.size:=by
  refine Array.ext_getElem? fun k=> ?_
  by_cases h:k<w.heap.size
  ·rw [mem k h,Array.getElem?_append_left h]
  ·rw [Array.getElem?_append_right (by omega),Array.getElem?_extract]
   by_cases h2:k<w'.heap.size
   ·rw [if_pos (by omega)];congr 1;omega
   ·rw [if_neg (by omega),Array.getElem?_eq_none (by omega)]
 have hd':w'.drawn=w.drawn+(w'.drawn - w.drawn):=by omega
 obtain⟨h1,t1,d1,o1,u1⟩:=w
 obtain⟨h2,t2,d2,o2,u2⟩:=w'
 simp only at os tp hu hd hh hd'
 subst os;subst tp;subst hu
 unfold grow World.drewN
 simp only
 rw [←hh,←hd']
variable {P:Program} {α:Type} [Inhabited α]
def uI (cf:α→α→Int) (l:List α) (i j:_root_.Fin l.length):Int:=cf (at' l i.1) (at' l j.1)
theorem FN (l:List α) (i:_root_.Fin l.length):at' l i.1=l[i.1]:=by unfold at';simp [i.2]
theorem TK (l:List α):(List.finRange l.length).map (fun i:_root_.Fin l.length=>at' l i.1)=l:=by
 refine List.ext_getElem (by simp) fun i h1 h2=> ?_
 simp only [List.getElem_map,List.getElem_finRange]
 exact FN l ⟨i,h2⟩
theorem NV {cf:α→α→Int} (h:SWO (ltOf cf)) (l:List α):SWO (ltOf (uI cf l)) where
 irrefl x:=h.irrefl _
 trans x y z:=h.trans _ _ _
 ntrans x y z:=h.ntrans _ _ _
theorem NU (cf:α→α→Int) (l:List α):((List.finRange l.length).mergeSort fun x y=> !(ltOf (uI cf l)) y x).map (fun i:_root_.Fin l.length=>at' l i.1)=l.mergeSort fun x y=> !(ltOf cf) y x:=by
 exact(List.map_mergeSort (r:=fun x y=> !(ltOf (uI cf l)) y x) (s:=fun x y=> !(ltOf cf) y x) (f:=fun i:_root_.Fin l.length=>at' l i.1) (l:=List.finRange l.length) (fun a _ b _=>rfl)).trans (by rw [TK])
theorem TQ {ρ0:Ren} (L:SlLaysF.n6 P ρ0) (cf:α→α→Int) (hO:SWO (ltOf cf)) (hT: ∀x y,(ltOf cf) x y=false→(ltOf cf) y x=false→x=y)
  {g:Nat} {c:α→Nat→DV} (l:List α) (hcmp: ∀x∈l,∀y∈l,Fn P g [.one (.d (c x 0)), .one (.d (c y 0))] [] (.v (.one (.d (.int .i64 (cf x y))))) []) (hN:l.Nodup)
  (eg: ∀args w,(callFunc g args).run P w= .ok (.enter g args) w) {E:TypeId} (f:Nat) (hf:ρ0.f 6=f) (hen:Enters P f) {nn:Bool} {cap0:Nat→DV} (hsz0:l.length<4611686018427387904) {r:List α} (hr:(l.mergeSort fun x y=> !(ltOf cf) y x)=r):
  Fn P f [.one (.own 0 nn l.length), .one (.d (.fn g 0 cap0))] [(0,some (.arr E 1 l.length (ah c l)))] (.bZ []) [(0,some (.arr E 1 r.length (ah c r)))]:=by
 subst hf
 subst hr
 refine⟨hen,fun B vs hF hi ha=> ?_⟩
 match vs,ha with
 |[v0,v1],⟨h0,h2,_⟩=>
 obtain⟨cs,rfl,hl,_⟩:=h2
 have hcs:cs=[]:=List.eq_nil_of_length_eq_zero hl
 subst hcs
 have hz:(l.mergeSort fun x y=> !(ltOf cf) y x).length=l.length:=List.length_mergeSort _
 have none:l=[]→ ∀(p:Option Addr) cap,v0= .slice p 0 cap→Calls P (ρ0.f 6) (List.toArray [v0, .func (.func g) #[] #[]]) B.w fun e w'=> ∃v ρ' F',e= .returned v∧Fr B ρ' F' w'∧HI B ρ' F' w' (aP [(0,some (.arr E 1 (l.mergeSort fun x y=> !(ltOf cf) y x).length (ah c (l.mergeSort fun x y=> !(ltOf cf) y x))))])∧bA ρ' F' w' (.bZ []) v:=by
  intro hl1 p cap hv
  subst hl1;subst hv
  have L0:SlLaysF0.n6 P ρ0:={L with}
  refine(AnyF.slices_SortFunc_none L0 p cap (.func (.func g) #[] #[]) B.w).mono ?_
  rintro e w' ⟨rfl,rfl⟩
  have hm:(([]:List α).mergeSort fun x y=> !(ltOf cf) y x)=[]:=by simp
  rw [hm]
  exact⟨.tuple #[],B.ρ,B.F,rfl,⟨rfl,rfl, .refl _,Nat.le_refl _,fun _ _ _=>rfl,fun _ _ h=>h,fun q hq=> ⟨hF q hq, .inl hq⟩,fun _ h=>h⟩,hi,⟨[],rfl,trivial⟩⟩
 rcases h0 with⟨blk,base,cap,hb,rfl⟩|⟨_,hb,hl0,rfl⟩
 ·by_cases hl1:l=[]
  ·exact none hl1 _ cap (by rw [hl1];rfl)
  have hpos:0<l.length:=List.length_pos_iff.2 hl1
  haveI:Inhabited (_root_.Fin l.length):=⟨⟨0,hpos⟩⟩
  obtain⟨ft,hi⟩:=hi
  have hob:aP [(0,some (Ob.arr E 1 l.length (ah c l)))] 0=some (some (.arr E 1 l.length (ah c l))):=rfl
  rcases hi.obj 0 _ hob with⟨hn,_⟩|⟨blk',base',cap',hb',hS,vs,hhp,hroom,hlc,hcm,hel⟩
  ·rw [hb]at hn;cases hn
  rw [hb]at hb';cases hb'
  obtain⟨hlt,hnF,hFt⟩:=hi.blk 0 _ blk hob hS
  have hFt:B.Ft blk:=hFt.resolve_right (by omega)
  have hel': ∀i:_root_.Fin l.length,∃u,vs[base+i.1]? =some u∧bn B.F B.w (c (at' l i.1) 0) u:=fun i=>by
   obtain⟨u,h1,h2⟩:=hel i.1 i.2 0 (by omega)
   exact⟨u,by rw [←h1,Nat.mul_one,Nat.add_zero],h2⟩
  obtain⟨enc,henc⟩: ∃enc:_root_.Fin l.length→Value,∀i,vs[base+i.1]? =some (enc i)∧bn B.F B.w (c (at' l i.1) 0) (enc i):=⟨fun i=>Classical.choose (hel' i),fun i=>Classical.choose_spec (hel' i)⟩
  have h1:OneCell enc:=fun i=>(henc i).2.oneCell
  have hfrz: ∀a:Addr,a.block=blk→B.w.frozen? a=false:=fun a e=>by simp [World.frozen?,e,hhp]
  have hds:(List.finRange l.length).toArray.size=l.length:=by simp
  have hget0: ∀j (hj:j<l.length),(List.finRange l.length).toArray[j]! =⟨j,hj⟩:=fun j hj=>by
   rw [getElem!_pos _ j (by rw [hds];exact hj)];simp
  have hH:Holds enc B.w blk base (List.finRange l.length).toArray:=fun j hj=>by
   rw [hds]at hj
   refine⟨?_,hfrz _ rfl⟩
   rw [hget0 j hj]
   simp only [World.cell?,hhp]
   simpa using(henc ⟨j,hj⟩).1
  have hlay:CmpLays1 P g #[] enc (uI cf l) blk base (List.finRange l.length).toArray.size B.w:=by
   intro m os dk hs x y
   obtain⟨W,hW⟩: ∃W,W=sortWorld enc B.w blk base m dk os:=⟨_,rfl⟩
   rw [←hW]
   have hWsz:B.w.heap.size≤W.heap.size:=by rw [hW];unfold sortWorld grow;simp
   have hWm: ∀k,B.F k→W.heap[k]? =B.w.heap[k]? :=fun k hk=>by
    rw [hW]
    unfold sortWorld
    rw [heap_grow_old _ _ (by rw [Go.Sort.size_putRow];exact hF k hk)]
    show((B.w.heap.modify blk _)[k]?)=_
    have hne:blk≠k:=by rintro rfl;exact hnF hk
    rw [Array.getElem?_modify,if_neg hne]
   have hrx:=bn.gr (F':=B.F) (w':=W) (fun _ h=>h) hWm (henc x).2
   have hry:=bn.gr (F':=B.F) (w':=W) (fun _ h=>h) hWm (henc y).2
   have hc:=(hcmp (at' l x.1) (by rw [FN];exact List.getElem_mem _) (at' l y.1) (by rw [FN];exact List.getElem_mem _)).2 ⟨W,fun _=>Option.none,B.F,fun _=>False,W.heap.size,[]⟩ [enc x,enc y]
    (fun k hk=>Nat.lt_of_lt_of_le (hF k hk) hWsz) ⟨fun _ _=>False,fun b ob h=>by simp [aP,get]at h,fun b ob k h=>by simp [aP,get]at h,fun b b' ob ob' k h=>by simp [aP,get]at h,fun _ _=>rfl,fun x hx=>by cases hx⟩ ⟨hrx,hry,trivial⟩
   rw [show(#[enc x,enc y]++ #[]:Array Value)=[enc x,enc y].toArray from by simp]
   refine hc.mono ?_
   rintro e w' ⟨v,ρ',F',rfl,fr,_,hv⟩
   refine⟨by rw [show v= .int .i64 (cf (at' l x.1) (at' l y.1))from hv];rfl, ?_⟩
   exact Rs fr.os fr.tape fr.output fr.size fun k hk=>fr.mem k hk (fun h=>h)
  have hT': ∀x y:_root_.Fin l.length,(ltOf (uI cf l)) x y=false→(ltOf (uI cf l)) y x=false→x=y:=fun x y a b=>by
   have e:=hT _ _ a b
   rw [FN,FN]at e
   exact _root_.Fin.ext ((List.getElem_inj hN).1 e)
  have key:=Any.slices_SortFunc_total L enc h1 (uI cf l) (NV hO l) g #[] blk base cap (List.finRange l.length).toArray B.w eg hlay hH hlt (by rw [hds];exact hsz0) hT'
  rw [hds]at key
  refine key.mono ?_
  rintro e w' ⟨rfl,n,os,hw⟩
  have hd':((List.finRange l.length).toArray.toList.mergeSort fun x y=> !(ltOf (uI cf l)) y x)=(List.finRange l.length).mergeSort fun x y=> !(ltOf (uI cf l)) y x:=rfl
  rw [hd']at hw
  have hmap:=NU cf l
  have hml:((List.finRange l.length).mergeSort fun x y=> !(ltOf (uI cf l)) y x).length=l.length:=by rw [List.length_mergeSort];simp
  generalize hm:((List.finRange l.length).mergeSort fun x y=> !(ltOf (uI cf l)) y x)=m at hw hmap hml
  generalize hrr:(l.mergeSort fun x y=> !(ltOf cf) y x)=rr at hz hmap ⊢
  have hH':Holds enc w' blk base m.toArray:=by rw [hw];exact holds_sortWorld enc B.w blk base n (List.finRange l.length).toArray m.toArray os hlt hH (by simp [hml])
  have hsz:B.w.heap.size≤w'.heap.size:=by rw [hw];unfold sortWorld grow;simp
  have hold: ∀q,q<B.w.heap.size→q≠blk→w'.heap[q]? =B.w.heap[q]? :=fun q hq hne=>by
   rw [hw]
   unfold sortWorld
   rw [heap_grow_old _ _ (by rw [Go.Sort.size_putRow];exact hq)]
   show((B.w.heap.modify blk _)[q]?)=_
   rw [Array.getElem?_modify,if_neg (Ne.symm hne)]
  have hnew:w'.heap[blk]? =some (.cells (putCells enc base m.toArray vs.toArray) E (0,0)):=by
   rw [hw]
   unfold sortWorld
   rw [heap_grow_old _ _ (by rw [Go.Sort.size_putRow];exact hlt)]
   show((B.w.heap.modify blk _)[blk]?)=_
   rw [Array.getElem?_modify,if_pos rfl,hhp]
   rfl
  have hos:w'.os=B.w.os∧w'.tape=B.w.tape∧OD w' B.w:=by rw [hw];exact⟨rfl,rfl,rfl,Nat.le_add_right _ _⟩
  have hget: ∀b ob ob',aP [(0,some ob')] b=some (some ob)→b=0∧ob=ob':=fun b ob ob' h=>by
   unfold aP at h;rw [ay]at h;split at h
   ·rename_i e;cases h;exact⟨e.symm,rfl⟩
   ·cases h
  refine⟨.tuple #[],B.ρ,B.F,rfl,⟨hos.1,hos.2.1,hos.2.2,hsz,fun q hq hn=>hold q hq fun e=>hn (e ▸ hFt),fun _ _ h=>h,fun q hq=> ⟨Nat.lt_of_lt_of_le (hF q hq) hsz, .inl hq⟩,fun _ h=>h⟩,⟨ft,fun b ob h=> ?_,fun b ob q h hq=> ?_,fun b b' ob ob' q h h' hq hq'=> ?_,fun b h=> ?_,fun x hx=> ⟨(hi.gl x hx).1,by rw [hold _ (hF _ (hi.gl x hx).1) (fun e=>hnF (e ▸ (hi.gl x hx).1))];exact(hi.gl x hx).2⟩⟩,⟨[],rfl,trivial⟩⟩
  ·obtain⟨rfl,rfl⟩:=hget _ _ _ h
   refine .inr ⟨blk,base,cap,hb,hS,(putCells enc base m.toArray vs.toArray).toList,hnew, ?_,by omega,hcm,fun i hi' j hj=> ?_⟩
   ·simp [putCells];exact(by simpa using hroom)
   ·have hj0:j=0:=by omega
    subst hj0
    have him:i<m.length:=by omega
    have:=(hH' i (by simpa using him)).1
    simp only [World.cell?,hnew]at this
    refine⟨enc m.toArray[i]!,by rw [Nat.mul_one,Nat.add_zero];simpa using this, ?_⟩
    rw [Qe]
    have hat:at' rr i=at' l (at' m i).1:=by
     rw [←hmap]
     unfold at'
     simp [him]
    show bn B.F w' (c (at' rr i) 0) _
    rw [hat]
    exact bn.gr (fun _ h=>h) (fun k hk=>hold k (hF k hk) fun e=>hnF (e ▸ hk)) (henc (at' m i)).2
  ·obtain⟨rfl,rfl⟩:=hget _ _ _ h
   obtain⟨x1,x2,x3⟩:=hi.blk 0 _ q hob hq
   exact⟨Nat.lt_of_lt_of_le x1 hsz,x2,x3⟩
  ·rw [(hget _ _ _ h).1,(hget _ _ _ h').1]
  ·refine hi.fresh b ?_
   unfold aP at h ⊢;rw [ay]at h ⊢
   split at h
   ·cases h
   ·rename_i hne;rw [if_neg hne];rfl
 ·have hl1:l=[]:=List.eq_nil_of_length_eq_zero hl0
  exact none hl1 Option.none 0 rfl
end Sg

namespace Sg
open Go Go.Sort Go.Proofs
theorem rO: ∀x y:List Int,nY y x= - nY x y
 |[],[]=>rfl
 |[],_::_=>rfl
 |_::_,[]=>rfl
 |a::x,b::y=>by
  unfold nY
  by_cases h1:a<b
  ·have h2: ¬ b<a:=by omega
   simp [h1,h2]
  ·by_cases h2:b<a
   ·simp [h1,h2]
   ·simp [h1,h2];exact rO x y
theorem wP: ∀x y:List Int,nY x y=0→x=y
 |[],[],_=>rfl
 |[],_::_,h=>by cases h
 |_::_,[],h=>by cases h
 |a::x,b::y,h=>by
  unfold nY at h
  by_cases h1:a<b
  ·rw [if_pos h1]at h;cases h
  ·rw [if_neg h1]at h
   by_cases h2:b<a
   ·rw [if_pos h2]at h;cases h
   ·rw [if_neg h2]at h
    rw [show a=b by omega,wP x y h]
theorem OO (x:List Int):nY x x=0:=by have:=rO x x;omega
theorem zy: ∀x y z:List Int,nY x y<0→nY y z<0→nY x z<0
 |[],[],_,h,_=>by cases h
 |[],_::_,[],_,h=>by simp [nY]at h
 |[],_::_,_::_,_,_=>by simp [nY]
 |_::_,[],_,h,_=>by simp [nY]at h
 |_::_,_::_,[],_,h=>by simp [nY]at h
 |a::x,b::y,c::z,h,g=>by
  unfold nY at h g ⊢
  by_cases h1:a<b
  ·by_cases g1:b<c
   ·rw [if_pos (by omega)];decide
   ·rw [if_neg g1]at g
    by_cases g2:c<b
    ·rw [if_pos g2]at g;omega
    ·rw [if_pos (by omega)];decide
  ·rw [if_neg h1]at h
   by_cases h2:b<a
   ·rw [if_pos h2]at h;omega
   ·rw [if_neg h2]at h
    have:a=b:=by omega
    subst this
    by_cases g1:a<c
    ·rw [if_pos g1];decide
    ·rw [if_neg g1]at g ⊢
     by_cases g2:c<a
     ·rw [if_pos g2]at g;omega
     ·rw [if_neg g2]at g ⊢;exact zy x y z h g
theorem Eb (x y:List Int):ltOf cmpL x y=true↔x.length<y.length∨x.length=y.length∧nY x y<0:=by
 unfold ltOf cmpL
 rw [decide_eq_true_iff]
 by_cases h:x.length=y.length
 ·rw [if_pos h];omega
 ·rw [if_neg h];omega
theorem Ac:SWO (ltOf cmpL) where
 irrefl x:=by rw [←Bool.not_eq_true,Eb,OO];omega
 trans x y z h1 h2:=by
  rw [Eb]at*
  rcases h1 with h1|⟨h1,h3⟩<;>rcases h2 with h2|⟨h2,h4⟩
  ·left;omega
  ·left;omega
  ·left;omega
  ·exact .inr ⟨by omega,zy x y z h3 h4⟩
 ntrans x y z h1 h2:=by
  rw [←Bool.not_eq_true,Eb]at*
  intro h
  have n1:=rO x y;have n2:=rO y z;have n3:=rO x z
  by_cases e1:nY x y=0
  ·have:=wP x y e1;subst this;exact h2 h
  by_cases e2:nY y z=0
  ·have:=wP y z e2;subst this;exact h1 h
  have t:=zy z y x
  omega
theorem JM (x y:List Int) (h1:(ltOf cmpL) x y=false) (h2:(ltOf cmpL) y x=false):x=y:=by
 rw [←Bool.not_eq_true,Eb]at h1 h2
 have n1:=rO x y
 exact wP x y (by omega)
theorem Kb {x y:List Int} (hl:x.length=y.length) {body:Int→Option (aI Int (Ex Unit Int))}
  (h: ∀i:Nat,i<x.length→body (i:Int)=if at' x i<at' y i then some (.done (.ret (-1)))else if at' y i<at' x i then some (.done (.ret 1))else some (.next ((i:Int)+1)))
  (he:body (x.length:Int)=some (.done (.brk ()))): ∀(m i N:Nat),i+m=x.length→m<N→aD body N (i:Int)=some (if nY (x.drop i) (y.drop i)=0 then .brk ()else .ret (nY (x.drop i) (y.drop i)))
 |_,_,0,_,hN=>by omega
 |0,i,N+1,hi,_=>by
  have:i=x.length:=by omega
  subst this
  rw [gu,he,List.drop_eq_nil_of_le (Nat.le_refl _),List.drop_eq_nil_of_le (by omega)];rfl
 |m+1,i,N+1,hi,hN=>by
  have h1:i<x.length:=by omega
  have ex:x.drop i=at' x i::x.drop (i+1):=by rw [List.drop_eq_getElem_cons h1];simp [at',h1]
  have ey:y.drop i=at' y i::y.drop (i+1):=by rw [List.drop_eq_getElem_cons (by omega)];simp [at',show i<y.length by omega]
  rw [gu,h i h1,ex,ey]
  unfold nY
  by_cases g1:at' x i<at' y i
  ·rw [if_pos g1,if_pos g1];rfl
  ·rw [if_neg g1,if_neg g1]
   by_cases g2:at' y i<at' x i
   ·rw [if_pos g2,if_pos g2];rfl
   ·rw [if_neg g2,if_neg g2]
    exact Kb hl h he m (i+1) N (by omega) (by omega)
theorem KD {P:Program} {ops:Array Oper} {Q:Exit→Act→World→Prop} {md:Region.Mode} {S:World→Prop} {i:Nat} {o:Oper} {fuel:Nat} {listed:Array Bool} {a:Act} {w:World}
  (hr:Region.ready md ops listed=[i]) (hi:ops[i]? =some o) (hg:o.guard=none)
  (h: ∀K:Act→World→Prop,(∀a w,(S w∧wpAnyH P md ops Q S fuel (listed.setIfInBounds i true) a w)→K a w)→o.wp P a w K Q):wpAnyH P md ops Q S (fuel+1) listed a w:=by
 refine wpAnyH_all hr (by simp) fun j hj=> ?_
 have hj:j=i:=by simpa using hj
 subst hj
 unfold wpOp
 rw [hi]
 simp only [Region.wanted,hg,if_true]
 exact .inl (h _ fun _ _ h=>h)
theorem take_at {P:Program} {ops:Array Oper} {Q:Exit→Act→World→Prop} {md:Region.Mode} {S:World→Prop} {i d:Nat} {oi:Oper} {v:Value} {fuel:Nat} {listed:Array Bool} {tm:Array Value} {df:List Deferred} {w:World} (hi:ops[i]? =some oi) (hd:oi.dst=some d) (hg:oi.guard=none)
  (hs:Region.noSelect ops=true) (hf:Region.free md ops listed i=true) (hr:(Region.ready md ops listed).contains i=true)
  (hQ: ∀c tm' df w,Q (.panic c) ⟨tm',df⟩ w→ ∀tm,Q (.panic c) ⟨tm,df⟩ w) (hy: ∀V,S V→(execOp (Act.eval ⟨tm,df⟩) oi).run P V= .ok (.value v) V) (hS:S w)
  (h:wpAnyH P md ops Q S fuel (listed.setIfInBounds i true) ⟨tm.setIfInBounds d v,df⟩ w):wpAnyH P md ops Q S (fuel+1) listed ⟨tm,df⟩ w:=
 wpAnyH_take hi hs hf hr (fun c a w h=>by cases a;rw [hd]at h;exact hQ _ _ _ _ h _) (.inl ⟨by simp [Region.wanted,hg],hy⟩) hS (by rw [hd];exact h)
end Sg

namespace Sg
open Go Go.Proofs Go.RowKit Go.Sort
def Lx (x y:Int):Int:=if x<y then -1 else if y<x then 1 else 0
def ZA (x0 x1 y0 y1:Int):Int:=if x0<y0 then -1 else if y0<x0 then 1 else if x1<y1 then -1 else if y1<x1 then 1 else 0
theorem Bn (x:Int) (W:World):Calls Tryz.prog 243 #[.int .i64 x] W fun e w'=>e= .returned (.bool false)∧w'=W:=by
 go_enter Tryz.func243,Tryz.ntmps243
 go_wp2
 go_ret
 exact⟨rfl,rfl⟩
theorem jC (x y:Int) (W:World):Calls Tryz.prog 177 #[.int .i64 x, .int .i64 y] W fun e w'=>e= .returned (.int .i64 (Lx x y))∧w'=W:=by
 unfold Lx
 go_enter Tryz.func177,Tryz.ntmps177
 rcases Int.lt_trichotomy x y with h|h|h
 ·rw [if_pos h]
  go_wp2_with (go_at_call 243;refine(Bn _ _).mono ?_;rintro e w' ⟨rfl,rfl⟩)
  go_ret
  exact⟨rfl,rfl⟩
 ·subst h
  rw [if_neg (Int.lt_irrefl x),if_neg (Int.lt_irrefl x)]
  go_wp2_with (go_at_call 243;refine(Bn _ _).mono ?_;rintro e w' ⟨rfl,rfl⟩)
  go_ret
  exact⟨rfl,rfl⟩
 ·have h': ¬ x<y:=by omega
  rw [if_neg h',if_pos h]
  go_wp2_with (go_at_call 243;refine(Bn _ _).mono ?_;rintro e w' ⟨rfl,rfl⟩)
  go_ret
  exact⟨rfl,rfl⟩
set_option maxHeartbeats 2000000 in
theorem OZ (x0 x1 y0 y1:Int) (k1 k2:Nat) (W:World) (h0:W.cell? ⟨k1,0,none⟩=some (.int .i64 x0)) (h1:W.cell? ⟨k1,1,none⟩=some (.int .i64 x1)) (h2:W.cell? ⟨k2,0,none⟩=some (.int .i64 y0)) (h3:W.cell? ⟨k2,1,none⟩=some (.int .i64 y1)) (e0:Lx x0 y0= -1):
  Calls Tryz.prog 98 #[.slice (some ⟨k1,0,none⟩) 2 2, .slice (some ⟨k2,0,none⟩) 2 2] W fun e w'=>e= .returned (.int .i64 (-1))∧w'=W:=by
 have a0:Hid (∀W,Calls Tryz.prog 177 #[.int .i64 x0, .int .i64 y0] W fun e w'=>e= .returned (.int .i64 (-1))∧w'=W):=fun W=>by have:=jC x0 y0 W;rw [e0]at this;exact this
 clear e0
 go_enter Tryz.func98,Tryz.ntmps98
 go_wp2
 refine wp_loop_rounds 3 ?_
 rw [rounds_succ]
 go_wp2_with (go_at_call 177;refine Calls.mono (a0.out _) ?_;rintro e w' ⟨rfl,rfl⟩)
 go_ret
 exact⟨rfl,rfl⟩
set_option maxHeartbeats 2000000 in
theorem Oi (x0 x1 y0 y1:Int) (k1 k2:Nat) (W:World) (h0:W.cell? ⟨k1,0,none⟩=some (.int .i64 x0)) (h1:W.cell? ⟨k1,1,none⟩=some (.int .i64 x1)) (h2:W.cell? ⟨k2,0,none⟩=some (.int .i64 y0)) (h3:W.cell? ⟨k2,1,none⟩=some (.int .i64 y1)) (e0:Lx x0 y0=1):
  Calls Tryz.prog 98 #[.slice (some ⟨k1,0,none⟩) 2 2, .slice (some ⟨k2,0,none⟩) 2 2] W fun e w'=>e= .returned (.int .i64 (1))∧w'=W:=by
 have a0:Hid (∀W,Calls Tryz.prog 177 #[.int .i64 x0, .int .i64 y0] W fun e w'=>e= .returned (.int .i64 (1))∧w'=W):=fun W=>by have:=jC x0 y0 W;rw [e0]at this;exact this
 clear e0
 go_enter Tryz.func98,Tryz.ntmps98
 go_wp2
 refine wp_loop_rounds 3 ?_
 rw [rounds_succ]
 go_wp2_with (go_at_call 177;refine Calls.mono (a0.out _) ?_;rintro e w' ⟨rfl,rfl⟩)
 go_ret
 exact⟨rfl,rfl⟩
set_option maxHeartbeats 2000000 in
theorem Og (x0 x1 y0 y1:Int) (k1 k2:Nat) (W:World) (h0:W.cell? ⟨k1,0,none⟩=some (.int .i64 x0)) (h1:W.cell? ⟨k1,1,none⟩=some (.int .i64 x1)) (h2:W.cell? ⟨k2,0,none⟩=some (.int .i64 y0)) (h3:W.cell? ⟨k2,1,none⟩=some (.int .i64 y1)) (e0:Lx x0 y0=0) (e1:Lx x1 y1= -1):
  Calls Tryz.prog 98 #[.slice (some ⟨k1,0,none⟩) 2 2, .slice (some ⟨k2,0,none⟩) 2 2] W fun e w'=>e= .returned (.int .i64 (-1))∧w'=W:=by
 have a0:Hid (∀W,Calls Tryz.prog 177 #[.int .i64 x0, .int .i64 y0] W fun e w'=>e= .returned (.int .i64 (0))∧w'=W):=fun W=>by have:=jC x0 y0 W;rw [e0]at this;exact this
 have a1:Hid (∀W,Calls Tryz.prog 177 #[.int .i64 x1, .int .i64 y1] W fun e w'=>e= .returned (.int .i64 (-1))∧w'=W):=fun W=>by have:=jC x1 y1 W;rw [e1]at this;exact this
 clear e0 e1
 go_enter Tryz.func98,Tryz.ntmps98
 go_wp2
 refine wp_loop_rounds 3 ?_
 rw [rounds_succ]
 go_wp2_with (go_at_call 177;refine Calls.mono (a0.out _) ?_;rintro e w' ⟨rfl,rfl⟩)
 rw [rounds_succ]
 go_wp2_with (go_at_call 177;refine Calls.mono (a1.out _) ?_;rintro e w' ⟨rfl,rfl⟩)
 go_ret
 exact⟨rfl,rfl⟩
set_option maxHeartbeats 2000000 in
theorem Oy (x0 x1 y0 y1:Int) (k1 k2:Nat) (W:World) (h0:W.cell? ⟨k1,0,none⟩=some (.int .i64 x0)) (h1:W.cell? ⟨k1,1,none⟩=some (.int .i64 x1)) (h2:W.cell? ⟨k2,0,none⟩=some (.int .i64 y0)) (h3:W.cell? ⟨k2,1,none⟩=some (.int .i64 y1)) (e0:Lx x0 y0=0) (e1:Lx x1 y1=1):
  Calls Tryz.prog 98 #[.slice (some ⟨k1,0,none⟩) 2 2, .slice (some ⟨k2,0,none⟩) 2 2] W fun e w'=>e= .returned (.int .i64 (1))∧w'=W:=by
 have a0:Hid (∀W,Calls Tryz.prog 177 #[.int .i64 x0, .int .i64 y0] W fun e w'=>e= .returned (.int .i64 (0))∧w'=W):=fun W=>by have:=jC x0 y0 W;rw [e0]at this;exact this
 have a1:Hid (∀W,Calls Tryz.prog 177 #[.int .i64 x1, .int .i64 y1] W fun e w'=>e= .returned (.int .i64 (1))∧w'=W):=fun W=>by have:=jC x1 y1 W;rw [e1]at this;exact this
 clear e0 e1
 go_enter Tryz.func98,Tryz.ntmps98
 go_wp2
 refine wp_loop_rounds 3 ?_
 rw [rounds_succ]
 go_wp2_with (go_at_call 177;refine Calls.mono (a0.out _) ?_;rintro e w' ⟨rfl,rfl⟩)
 rw [rounds_succ]
 go_wp2_with (go_at_call 177;refine Calls.mono (a1.out _) ?_;rintro e w' ⟨rfl,rfl⟩)
 go_ret
 exact⟨rfl,rfl⟩
set_option maxHeartbeats 2000000 in
theorem NE (x0 x1 y0 y1:Int) (k1 k2:Nat) (W:World) (h0:W.cell? ⟨k1,0,none⟩=some (.int .i64 x0)) (h1:W.cell? ⟨k1,1,none⟩=some (.int .i64 x1)) (h2:W.cell? ⟨k2,0,none⟩=some (.int .i64 y0)) (h3:W.cell? ⟨k2,1,none⟩=some (.int .i64 y1)) (e0:Lx x0 y0=0) (e1:Lx x1 y1=0):
  Calls Tryz.prog 98 #[.slice (some ⟨k1,0,none⟩) 2 2, .slice (some ⟨k2,0,none⟩) 2 2] W fun e w'=>e= .returned (.int .i64 (0))∧w'=W:=by
 have a0:Hid (∀W,Calls Tryz.prog 177 #[.int .i64 x0, .int .i64 y0] W fun e w'=>e= .returned (.int .i64 (0))∧w'=W):=fun W=>by have:=jC x0 y0 W;rw [e0]at this;exact this
 have a1:Hid (∀W,Calls Tryz.prog 177 #[.int .i64 x1, .int .i64 y1] W fun e w'=>e= .returned (.int .i64 (0))∧w'=W):=fun W=>by have:=jC x1 y1 W;rw [e1]at this;exact this
 clear e0 e1
 go_enter Tryz.func98,Tryz.ntmps98
 go_wp2
 refine wp_loop_rounds 3 ?_
 rw [rounds_succ]
 go_wp2_with (go_at_call 177;refine Calls.mono (a0.out _) ?_;rintro e w' ⟨rfl,rfl⟩)
 rw [rounds_succ]
 go_wp2_with (go_at_call 177;refine Calls.mono (a1.out _) ?_;rintro e w' ⟨rfl,rfl⟩)
 rw [rounds_succ]
 go_wp2
 go_ret
 exact⟨rfl,rfl⟩
theorem Gu (x0 x1 y0 y1:Int) (k1 k2:Nat) (W:World) (h0:W.cell? ⟨k1,0,none⟩=some (.int .i64 x0)) (h1:W.cell? ⟨k1,1,none⟩=some (.int .i64 x1)) (h2:W.cell? ⟨k2,0,none⟩=some (.int .i64 y0)) (h3:W.cell? ⟨k2,1,none⟩=some (.int .i64 y1)):
  Calls Tryz.prog 98 #[.slice (some ⟨k1,0,none⟩) 2 2, .slice (some ⟨k2,0,none⟩) 2 2] W fun e w'=>e= .returned (.int .i64 (ZA x0 x1 y0 y1))∧w'=W:=by
 unfold ZA
 by_cases g0:x0<y0
 ·rw [if_pos g0];exact OZ x0 x1 y0 y1 k1 k2 W h0 h1 h2 h3 (if_pos g0)
 ·by_cases g1:y0<x0
  ·rw [if_neg g0,if_pos g1];exact Oi x0 x1 y0 y1 k1 k2 W h0 h1 h2 h3 (by unfold Lx;rw [if_neg g0,if_pos g1])
  ·have e0:Lx x0 y0=0:=by unfold Lx;rw [if_neg g0,if_neg g1]
   rw [if_neg g0,if_neg g1]
   by_cases g2:x1<y1
   ·rw [if_pos g2];exact Og x0 x1 y0 y1 k1 k2 W h0 h1 h2 h3 e0 (if_pos g2)
   ·by_cases g3:y1<x1
    ·rw [if_neg g2,if_pos g3];exact Oy x0 x1 y0 y1 k1 k2 W h0 h1 h2 h3 e0 (by unfold Lx;rw [if_neg g2,if_pos g3])
    ·rw [if_neg g2,if_neg g3];exact NE x0 x1 y0 y1 k1 k2 W h0 h1 h2 h3 e0 (by unfold Lx;rw [if_neg g2,if_neg g3])
set_option maxHeartbeats 2000000 in
theorem Lb (x0 x1 y0 y1:Int) (W:World):Calls Tryz.prog 208 #[.agg #[.int .i64 x0, .int .i64 x1], .agg #[.int .i64 y0, .int .i64 y1]] W fun e w'=>e= .returned (.int .i64 (ZA x0 x1 y0 y1))∧ ∃q os',w'=grow (W.drewN q) os':=by
 go_enter Tryz.func208,Tryz.ntmps208
 go_wp2
 have hm:Tryz.prog.follows .mixedOrders=true:=by kernel_rfl
 refine wp_region_held (S:=fun _=>True) hm ?_
 obtain⟨V,hV⟩: ∃V,V=((W.alloc (.cells #[.int .i64 x0, .int .i64 x1] 145)).alloc (.cells #[.int .i64 y0, .int .i64 y1] 145)).drew:=⟨_,rfl⟩
 change wpAnyH _ _ _ _ _ 4 _ _ (World.drew ((W.alloc (.cells #[.int .i64 x0, .int .i64 x1] 145)).alloc (.cells #[.int .i64 y0, .int .i64 y1] 145)))
 rw [←hV]
 have b1:V.heap[W.heap.size+1]? =some (.cells #[.int .i64 y0, .int .i64 y1] 145 (0,0)):=by
  subst hV
  show((W.alloc (.cells #[.int .i64 x0, .int .i64 x1] 145)).alloc (.cells #[.int .i64 y0, .int .i64 y1] 145)).heap[W.heap.size+1]? =_
  rw [show W.heap.size+1=(W.alloc (.cells #[.int .i64 x0, .int .i64 x1] 145)).heap.size by simp];exact heap_alloc_new _ _
 have b0:V.heap[W.heap.size]? =some (.cells #[.int .i64 x0, .int .i64 x1] 145 (0,0)):=by
  subst hV
  show((W.alloc (.cells #[.int .i64 x0, .int .i64 x1] 145)).alloc (.cells #[.int .i64 y0, .int .i64 y1] 145)).heap[W.heap.size]? =_
  rw [heap_alloc_old _ _ (by simp)];exact heap_alloc_new W _
 have L:Hid _:=Gu x0 x1 y0 y1 W.heap.size (W.heap.size+1) V (by simp only [World.cell?,b0];rfl) (by simp only [World.cell?,b0];rfl) (by simp only [World.cell?,b1];rfl) (by simp only [World.cell?,b1];rfl)
 have hg:V=grow (W.drewN 1) #[.cells #[.int .i64 x0, .int .i64 x1] 145 (0,0), .cells #[.int .i64 y0, .int .i64 y1] 145 (0,0)]:=by
  subst hV
  rfl
 clear hV b0 b1
 refine take_at (i:=0) (d:=5) (v:= .slice (some ⟨W.heap.size,0,none⟩) 2 2) rfl rfl rfl (by kernel_rfl) (by kernel_rfl) (by kernel_rfl) (fun _ _ _ _ h _=>h) (fun U _=> ?_) trivial ?_
 ·clear hg
  go_simp
 simp only [List.setIfInBounds_toArray,List.set_cons_succ,List.set_cons_zero]
 refine take_at (i:=1) (d:=6) (v:= .slice (some ⟨W.heap.size+1,0,none⟩) 2 2) rfl rfl rfl (by kernel_rfl) (by kernel_rfl) (by kernel_rfl) (fun _ _ _ _ h _=>h) (fun U _=> ?_) trivial ?_
 ·clear hg
  go_simp
 simp only [List.setIfInBounds_toArray,List.set_cons_succ,List.set_cons_zero]
 have hgH:Hid _:=hg
 clear hg
 refine KD (i:=2) (by kernel_rfl) rfl rfl (fun K hK=> ?_)
 go_wp2_with (go_at_call 98;refine Calls.mono L.out ?_;rintro e w' ⟨rfl,rfl⟩)
 refine⟨trivial, ?_⟩
 refine KD (i:=3) (by kernel_rfl) rfl rfl (fun K hK=> ?_)
 go_wp2
 refine⟨trivial,wpAnyH_done (by kernel_rfl) ?_ _⟩
 go_wp2
 go_ret
 exact⟨rfl,1,_,hgH.out⟩
theorem LX {α:Type} [Inhabited α] (enc:α→List Value) (a0 a1:α→Int) (he: ∀x,enc x=[.int .i64 (a0 x), .int .i64 (a1 x)]) (blk off size:Nat) (w:World):
  CmpLays Tryz.prog 208 #[] enc 2 (fun x y=>ZA (a0 x) (a1 x) (a0 y) (a1 y)) blk off size w:=by
 intro m os dk hs x y
 rw [he x,he y]
 exact Lb _ _ _ _ _
end Sg
