import Derived.Test.YtbjhjmcpfmhgdaaGreatAsLd
import Derived.Shelf.SlSortCmp.NoneTotal
import Derived.OrdersHeld
import Derived.Test.YtbjhjmcpfmhgdaaGreatProg
import Derived.ProofKit
import Derived.Sort.Grow
import Derived.Shelf.SlSortCmp.InsertionK
set_option linter.all false
namespace Sg
open Go Go.Sort Go.Proofs Go.Shelf
variable {P:Program} {α:Type} [Inhabited α]
theorem UG {l:List α} (i:Nat):l.toArray[i]! =at' l i:=by
 unfold at'
 simp [List.getD_eq_getElem?_getD]
theorem Wm {ρ0:Ren} (L:SlLaysF0.n6 P ρ0) (k:Nat) (aE: ∀w,(isAgg (ρ0.t 24)).run P w= .ok true w) (zE: ∀w,(Go.sizeOf (ρ0.t 24)).run P w= .ok k w)
  (enc:α→List Value) (hk: ∀x,(enc x).length=k) (h1: ∀x,∀v∈enc x,v.oneCell'=true) (cf:α→α→Int) (hO:SWO (ltOf cf))
  (hT: ∀x y,(ltOf cf) x y=false→(ltOf cf) y x=false→x=y) {g:Nat}
  (hcmp: ∀blk off size w,CmpLays P g #[] enc k cf blk off size w) (eg: ∀args w,(callFunc g args).run P w= .ok (.enter g args) w)
  {E:TypeId} {c:α→Nat→DV} (hd: ∀F w (x:α) j,j<k→ ∀v,bJ F w (c x j) v↔v=(enc x)[j]!)
  (f:Nat) (hf:ρ0.f 6=f) (hen:Enters P f) {nn:Bool} {cap0:Nat→DV} (l:List α) {r:List α} (hr:(bif decide (l.length<4611686018427387904)then some (l.mergeSort fun x y=> !(ltOf cf) y x)else none)=some r):
  Fn P f [.one (.own 0 nn l.length), .one (.d (.fn g 0 cap0))] [(0,some (.arr E k l.length (aD c l)))] (.dL []) [(0,some (.arr E k r.length (aD c r)))]:=by
 subst hf
 have hsz0:l.length<4611686018427387904:=by
  cases hq:decide (l.length<4611686018427387904)with
  |true=>exact of_decide_eq_true hq
  |false=>rw [hq]at hr;cases hr
 rw [decide_eq_true hsz0]at hr
 cases hr
 refine⟨hen,fun B vs hF hi ha=> ?_⟩
 match vs,ha with
 |[v0,v1],⟨h0,h2,_⟩=>
 obtain⟨cs,rfl,hl,_⟩:=h2
 have hcs:cs=[]:=List.eq_nil_of_length_eq_zero hl
 subst hcs
 have hz:(l.mergeSort fun x y=> !(ltOf cf) y x).length=l.length:=List.length_mergeSort _
 rcases h0 with⟨blk,base,cap,hb,rfl⟩|⟨_,hb,hl0,rfl⟩
 ·obtain⟨ft,hi⟩:=hi
  have hob:aT [(0,some (Ob.arr E k l.length (aD c l)))] 0=some (some (.arr E k l.length (aD c l))):=rfl
  rcases hi.obj 0 _ hob with⟨hn,_⟩|⟨blk',base',cap',hb',hS,vs,hhp,hroom,hlc,hcm,hel⟩
  ·rw [hb]at hn;cases hn
  rw [hb]at hb';cases hb'
  obtain⟨hlt,hnF,hFt⟩:=hi.blk 0 _ blk hob hS
  have hFt:B.Ft blk:=hFt.resolve_right (by omega)
  have hcell: ∀t,t<l.length*k→B.w.cell? ⟨blk,base+t,none⟩=some (Go.Sort.flatK enc k l.toArray)[t]! :=by
   intro t ht
   have k0:0<k:=by
    rcases Nat.eq_zero_or_pos k with h|h
    ·subst h;simp at ht
    ·exact h
   have hq:t / k<l.length:=Nat.div_lt_of_lt_mul (by rwa [Nat.mul_comm]at ht)
   obtain⟨u,hu,hru⟩:=hel (t / k) hq (t % k) (Nat.mod_lt _ k0)
   rw [get_flatK _ _ _ _ ht,UG]
   have:=(hd _ _ _ _ (Nat.mod_lt _ k0) _).1 hru
   subst this
   simp only [World.cell?,hhp]
   rw [show t / k*k+t % k=t by rw [Nat.mul_comm];exact Nat.div_add_mod t k]at hu
   simpa using hu
  have hfrz: ∀a:Addr,a.block=blk→B.w.frozen? a=false:=fun a e=>by simp [World.frozen?,e,hhp]
  have hH:HoldsK enc k B.w blk base l.toArray:=fun t ht=> ⟨hcell t (by rw [size_flatK]at ht;exact ht),hfrz _ rfl⟩
  have hs:l.toArray.size=l.length:=by simp
  have key:=AnyQ.slices_SortFunc_total L k aE zE enc hk h1 cf hO g #[] blk base cap l.toArray B.w eg (hcmp blk base _ B.w) hH hlt (by rw [hs];exact hsz0) hT
  rw [hs]at key
  refine key.mono ?_
  rintro e w' ⟨rfl,n,os,hw⟩
  have hd':(l.toArray.toList.mergeSort fun x y=> !(ltOf cf) y x)=l.mergeSort fun x y=> !(ltOf cf) y x:=rfl
  rw [hd']at hw
  generalize hm:(l.mergeSort fun x y=> !(ltOf cf) y x)=m at hw hz ⊢
  have hH':HoldsK enc k w' blk base m.toArray:=by rw [hw];exact holdsK_sortWorldK_c enc k B.w blk base l.toArray m.toArray n os hH hlt (by simp [hz])
  have hsz:B.w.heap.size≤w'.heap.size:=by rw [hw];exact size_sortWorldK_c enc k B.w blk base n m.toArray os
  have hold: ∀q,q<B.w.heap.size→q≠blk→w'.heap[q]? =B.w.heap[q]? :=fun q hq hne=>by
   rw [hw]
   unfold sortWorldK
   rw [heap_grow_old _ _ (by show q<(putRow id (Go.Sort.ahead B.w n) blk base _).heap.size;rw [Go.Sort.size_putRow];exact hq)]
   show((B.w.heap.modify blk _)[q]?)=_
   rw [Array.getElem?_modify,if_neg (Ne.symm hne)]
  have hnew:w'.heap[blk]? =some (.cells (putCells id base (Go.Sort.flatK enc k m.toArray) vs.toArray) E (0,0)):=by
   rw [hw]
   unfold sortWorldK
   rw [heap_grow_old _ _ (by show blk<(putRow id (Go.Sort.ahead B.w n) blk base _).heap.size;rw [Go.Sort.size_putRow];exact hlt)]
   show((B.w.heap.modify blk _)[blk]?)=_
   rw [Array.getElem?_modify,if_pos rfl,hhp]
   rfl
  have hos:w'.os=B.w.os∧w'.tape=B.w.tape∧w'.output=B.w.output:=by rw [hw];exact⟨rfl,rfl,rfl⟩
  have hget: ∀b ob ob',aT [(0,some ob')] b=some (some ob)→b=0∧ob=ob':=fun b ob ob' h=>by
   unfold aT at h;rw [aF]at h;split at h
   ·rename_i e;cases h;exact⟨e.symm,rfl⟩
   ·cases h
  refine⟨.tuple #[],B.ρ,B.F,rfl,⟨hos.1,hos.2.1,hos.2.2,hsz,fun q hq hn=>hold q hq fun e=>hn (e ▸ hFt),fun _ _ h=>h,fun q hq=> ⟨Nat.lt_of_lt_of_le (hF q hq) hsz, .inl hq⟩,fun _ h=>h⟩,⟨ft,fun b ob h=> ?_,fun b ob q h hq=> ?_,fun b b' ob ob' q h h' hq hq'=> ?_,fun b h=> ?_,fun x hx=> ⟨(hi.gl x hx).1,by rw [hold _ (hF _ (hi.gl x hx).1) (fun e=>hnF (e ▸ (hi.gl x hx).1))];exact(hi.gl x hx).2⟩⟩,⟨[],rfl,trivial⟩⟩
  ·obtain⟨rfl,rfl⟩:=hget _ _ _ h
   refine .inr ⟨blk,base,cap,hb,hS,(putCells id base (Go.Sort.flatK enc k m.toArray) vs.toArray).toList,hnew, ?_,by omega,hcm,fun i hi' j hj=> ?_⟩
   ·simp [putCells];exact hroom
   ·have ht:i*k+j<m.length*k:=by
     have:=Nat.mul_le_mul_right k (show i+1≤m.length from hi');rw [Nat.add_mul,Nat.one_mul]at this;omega
    have:=(hH' (i*k+j) (by simpa using ht)).1
    simp only [World.cell?,hnew]at this
    refine⟨(Go.Sort.flatK enc k m.toArray)[i*k+j]!,by simpa using this, ?_⟩
    rw [get_flatK _ _ _ _ ht,UG]
    have e1:(i*k+j) / k=i:=(blk_iff k i _ (by omega)).1 ⟨by omega,by omega⟩
    have e2:(i*k+j) % k=j:=by rw [Nat.mod_eq_sub_div_mul,e1];omega
    rw [e1,e2]
    exact(hd _ _ _ _ hj _).2 rfl
  ·obtain⟨rfl,rfl⟩:=hget _ _ _ h
   obtain⟨x1,x2,x3⟩:=hi.blk 0 _ q hob hq
   exact⟨Nat.lt_of_lt_of_le x1 hsz,x2,x3⟩
  ·rw [(hget _ _ _ h).1,(hget _ _ _ h').1]
  ·refine hi.fresh b ?_
   unfold aT at h ⊢;rw [aF]at h ⊢
   split at h
   ·cases h
   ·rename_i hne;rw [if_neg hne];rfl
 ·have hl1:l=[]:=List.eq_nil_of_length_eq_zero hl0
  subst hl1
  refine(AnyF.slices_SortFunc_none L none 0 (.func (.func g) #[] #[]) B.w).mono ?_
  rintro e w' ⟨rfl,rfl⟩
  have hm:(([]:List α).mergeSort fun x y=> !(ltOf cf) y x)=[]:=by simp
  rw [hm]
  exact⟨.tuple #[],B.ρ,B.F,rfl,⟨rfl,rfl, .refl _,Nat.le_refl _,fun _ _ _=>rfl,fun _ _ h=>h,fun q hq=> ⟨hF q hq, .inl hq⟩,fun _ h=>h⟩,hi,⟨[],rfl,trivial⟩⟩
theorem JQ {P:Program} {ops:Array Oper} {Q:Exit→Act→World→Prop} {md:Region.Mode} {S:World→Prop} {i:Nat} {o:Oper} {fuel:Nat} {listed:Array Bool} {a:Act} {w:World}
  (hr:Region.ready md ops listed=[i]) (hi:ops[i]? =some o) (hg:o.guard=none)
  (h: ∀K:Act→World→Prop,(∀a w,(S w∧wpAnyH P md ops Q S fuel (listed.setIfInBounds i true) a w)→K a w)→o.wp P a w K Q):wpAnyH P md ops Q S (fuel+1) listed a w:=by
 refine wpAnyH_all hr (by simp) fun j hj=> ?_
 have hj:j=i:=by simpa using hj
 subst hj
 unfold wpOp
 rw [hi]
 simp only [Region.wanted,hg,if_true]
 exact .inl (h _ fun _ _ h=>h)
theorem take_at {P:Program} {ops:Array Oper} {Q:Exit→Act→World→Prop} {md:Region.Mode} {S:World→Prop} {i d:Nat} {oi:Oper} {v:Value} {fuel:Nat} {listed:Array Bool} {tm:Array Value} {df:List Deferred} {w:World} (hi:ops[i]? =some oi) (hd:oi.dst=some d) (hg:oi.guard=none)
  (hs:Region.noSelect ops=true) (hf:Region.free md ops listed i=true) (hr:(Region.ready md ops listed).contains i=true)
  (hQ: ∀c tm' df w,Q (.panic c) ⟨tm',df⟩ w→ ∀tm,Q (.panic c) ⟨tm,df⟩ w) (hy: ∀V,S V→(execOp (Act.eval ⟨tm,df⟩) oi).run P V= .ok (.value v) V) (hS:S w)
  (h:wpAnyH P md ops Q S fuel (listed.setIfInBounds i true) ⟨tm.setIfInBounds d v,df⟩ w):wpAnyH P md ops Q S (fuel+1) listed ⟨tm,df⟩ w:=
 wpAnyH_take hi hs hf hr (fun c a w h=>by cases a;rw [hd]at h;exact hQ _ _ _ _ h _) (.inl ⟨by simp [Region.wanted,hg],hy⟩) hS (by rw [hd];exact h)
end Sg

namespace Sg
open Go Go.Proofs Go.RowKit Go.Sort
def M6 (x y:Int):Int:=if x<y then -1 else if y<x then 1 else 0
def YM (x0 x1 y0 y1:Int):Int:=if x0<y0 then -1 else if y0<x0 then 1 else if x1<y1 then -1 else if y1<x1 then 1 else 0
theorem Dh (x:Int) (W:World):Calls Tryz.prog 243 #[.int .i64 x] W fun e w'=>e= .returned (.bool false)∧w'=W:=by
 go_enter Tryz.func243,Tryz.ntmps243
 go_wp2
 go_ret
 exact⟨rfl,rfl⟩
theorem mU (x y:Int) (W:World):Calls Tryz.prog 177 #[.int .i64 x, .int .i64 y] W fun e w'=>e= .returned (.int .i64 (M6 x y))∧w'=W:=by
 unfold M6
 go_enter Tryz.func177,Tryz.ntmps177
 rcases Int.lt_trichotomy x y with h|h|h
 ·rw [if_pos h]
  go_wp2_with (go_at_call 243;refine(Dh _ _).mono ?_;rintro e w' ⟨rfl,rfl⟩)
  go_ret
  exact⟨rfl,rfl⟩
 ·subst h
  rw [if_neg (Int.lt_irrefl x),if_neg (Int.lt_irrefl x)]
  go_wp2_with (go_at_call 243;refine(Dh _ _).mono ?_;rintro e w' ⟨rfl,rfl⟩)
  go_ret
  exact⟨rfl,rfl⟩
 ·have h': ¬ x<y:=by omega
  rw [if_neg h',if_pos h]
  go_wp2_with (go_at_call 243;refine(Dh _ _).mono ?_;rintro e w' ⟨rfl,rfl⟩)
  go_ret
  exact⟨rfl,rfl⟩
set_option maxHeartbeats 2000000 in
theorem Pd (x0 x1 y0 y1:Int) (k1 k2:Nat) (W:World) (h0:W.cell? ⟨k1,0,none⟩=some (.int .i64 x0)) (h1:W.cell? ⟨k1,1,none⟩=some (.int .i64 x1)) (h2:W.cell? ⟨k2,0,none⟩=some (.int .i64 y0)) (h3:W.cell? ⟨k2,1,none⟩=some (.int .i64 y1)) (e0:M6 x0 y0= -1):
  Calls Tryz.prog 98 #[.slice (some ⟨k1,0,none⟩) 2 2, .slice (some ⟨k2,0,none⟩) 2 2] W fun e w'=>e= .returned (.int .i64 (-1))∧w'=W:=by
 have a0:Hid (∀W,Calls Tryz.prog 177 #[.int .i64 x0, .int .i64 y0] W fun e w'=>e= .returned (.int .i64 (-1))∧w'=W):=fun W=>by have:=mU x0 y0 W;rw [e0]at this;exact this
 clear e0
 go_enter Tryz.func98,Tryz.ntmps98
 go_wp2
 refine wp_loop_rounds 3 ?_
 rw [rounds_succ]
 go_wp2_with (go_at_call 177;refine Calls.mono (a0.out _) ?_;rintro e w' ⟨rfl,rfl⟩)
 go_ret
 exact⟨rfl,rfl⟩
set_option maxHeartbeats 2000000 in
theorem OG (x0 x1 y0 y1:Int) (k1 k2:Nat) (W:World) (h0:W.cell? ⟨k1,0,none⟩=some (.int .i64 x0)) (h1:W.cell? ⟨k1,1,none⟩=some (.int .i64 x1)) (h2:W.cell? ⟨k2,0,none⟩=some (.int .i64 y0)) (h3:W.cell? ⟨k2,1,none⟩=some (.int .i64 y1)) (e0:M6 x0 y0=1):
  Calls Tryz.prog 98 #[.slice (some ⟨k1,0,none⟩) 2 2, .slice (some ⟨k2,0,none⟩) 2 2] W fun e w'=>e= .returned (.int .i64 (1))∧w'=W:=by
 have a0:Hid (∀W,Calls Tryz.prog 177 #[.int .i64 x0, .int .i64 y0] W fun e w'=>e= .returned (.int .i64 (1))∧w'=W):=fun W=>by have:=mU x0 y0 W;rw [e0]at this;exact this
 clear e0
 go_enter Tryz.func98,Tryz.ntmps98
 go_wp2
 refine wp_loop_rounds 3 ?_
 rw [rounds_succ]
 go_wp2_with (go_at_call 177;refine Calls.mono (a0.out _) ?_;rintro e w' ⟨rfl,rfl⟩)
 go_ret
 exact⟨rfl,rfl⟩
set_option maxHeartbeats 2000000 in
theorem OA (x0 x1 y0 y1:Int) (k1 k2:Nat) (W:World) (h0:W.cell? ⟨k1,0,none⟩=some (.int .i64 x0)) (h1:W.cell? ⟨k1,1,none⟩=some (.int .i64 x1)) (h2:W.cell? ⟨k2,0,none⟩=some (.int .i64 y0)) (h3:W.cell? ⟨k2,1,none⟩=some (.int .i64 y1)) (e0:M6 x0 y0=0) (e1:M6 x1 y1= -1):
  Calls Tryz.prog 98 #[.slice (some ⟨k1,0,none⟩) 2 2, .slice (some ⟨k2,0,none⟩) 2 2] W fun e w'=>e= .returned (.int .i64 (-1))∧w'=W:=by
 have a0:Hid (∀W,Calls Tryz.prog 177 #[.int .i64 x0, .int .i64 y0] W fun e w'=>e= .returned (.int .i64 (0))∧w'=W):=fun W=>by have:=mU x0 y0 W;rw [e0]at this;exact this
 have a1:Hid (∀W,Calls Tryz.prog 177 #[.int .i64 x1, .int .i64 y1] W fun e w'=>e= .returned (.int .i64 (-1))∧w'=W):=fun W=>by have:=mU x1 y1 W;rw [e1]at this;exact this
 clear e0 e1
 go_enter Tryz.func98,Tryz.ntmps98
 go_wp2
 refine wp_loop_rounds 3 ?_
 rw [rounds_succ]
 go_wp2_with (go_at_call 177;refine Calls.mono (a0.out _) ?_;rintro e w' ⟨rfl,rfl⟩)
 rw [rounds_succ]
 go_wp2_with (go_at_call 177;refine Calls.mono (a1.out _) ?_;rintro e w' ⟨rfl,rfl⟩)
 go_ret
 exact⟨rfl,rfl⟩
set_option maxHeartbeats 2000000 in
theorem Oi (x0 x1 y0 y1:Int) (k1 k2:Nat) (W:World) (h0:W.cell? ⟨k1,0,none⟩=some (.int .i64 x0)) (h1:W.cell? ⟨k1,1,none⟩=some (.int .i64 x1)) (h2:W.cell? ⟨k2,0,none⟩=some (.int .i64 y0)) (h3:W.cell? ⟨k2,1,none⟩=some (.int .i64 y1)) (e0:M6 x0 y0=0) (e1:M6 x1 y1=1):
  Calls Tryz.prog 98 #[.slice (some ⟨k1,0,none⟩) 2 2, .slice (some ⟨k2,0,none⟩) 2 2] W fun e w'=>e= .returned (.int .i64 (1))∧w'=W:=by
 have a0:Hid (∀W,Calls Tryz.prog 177 #[.int .i64 x0, .int .i64 y0] W fun e w'=>e= .returned (.int .i64 (0))∧w'=W):=fun W=>by have:=mU x0 y0 W;rw [e0]at this;exact this
 have a1:Hid (∀W,Calls Tryz.prog 177 #[.int .i64 x1, .int .i64 y1] W fun e w'=>e= .returned (.int .i64 (1))∧w'=W):=fun W=>by have:=mU x1 y1 W;rw [e1]at this;exact this
 clear e0 e1
 go_enter Tryz.func98,Tryz.ntmps98
 go_wp2
 refine wp_loop_rounds 3 ?_
 rw [rounds_succ]
 go_wp2_with (go_at_call 177;refine Calls.mono (a0.out _) ?_;rintro e w' ⟨rfl,rfl⟩)
 rw [rounds_succ]
 go_wp2_with (go_at_call 177;refine Calls.mono (a1.out _) ?_;rintro e w' ⟨rfl,rfl⟩)
 go_ret
 exact⟨rfl,rfl⟩
set_option maxHeartbeats 2000000 in
theorem NN (x0 x1 y0 y1:Int) (k1 k2:Nat) (W:World) (h0:W.cell? ⟨k1,0,none⟩=some (.int .i64 x0)) (h1:W.cell? ⟨k1,1,none⟩=some (.int .i64 x1)) (h2:W.cell? ⟨k2,0,none⟩=some (.int .i64 y0)) (h3:W.cell? ⟨k2,1,none⟩=some (.int .i64 y1)) (e0:M6 x0 y0=0) (e1:M6 x1 y1=0):
  Calls Tryz.prog 98 #[.slice (some ⟨k1,0,none⟩) 2 2, .slice (some ⟨k2,0,none⟩) 2 2] W fun e w'=>e= .returned (.int .i64 (0))∧w'=W:=by
 have a0:Hid (∀W,Calls Tryz.prog 177 #[.int .i64 x0, .int .i64 y0] W fun e w'=>e= .returned (.int .i64 (0))∧w'=W):=fun W=>by have:=mU x0 y0 W;rw [e0]at this;exact this
 have a1:Hid (∀W,Calls Tryz.prog 177 #[.int .i64 x1, .int .i64 y1] W fun e w'=>e= .returned (.int .i64 (0))∧w'=W):=fun W=>by have:=mU x1 y1 W;rw [e1]at this;exact this
 clear e0 e1
 go_enter Tryz.func98,Tryz.ntmps98
 go_wp2
 refine wp_loop_rounds 3 ?_
 rw [rounds_succ]
 go_wp2_with (go_at_call 177;refine Calls.mono (a0.out _) ?_;rintro e w' ⟨rfl,rfl⟩)
 rw [rounds_succ]
 go_wp2_with (go_at_call 177;refine Calls.mono (a1.out _) ?_;rintro e w' ⟨rfl,rfl⟩)
 rw [rounds_succ]
 go_wp2
 go_ret
 exact⟨rfl,rfl⟩
theorem Gy (x0 x1 y0 y1:Int) (k1 k2:Nat) (W:World) (h0:W.cell? ⟨k1,0,none⟩=some (.int .i64 x0)) (h1:W.cell? ⟨k1,1,none⟩=some (.int .i64 x1)) (h2:W.cell? ⟨k2,0,none⟩=some (.int .i64 y0)) (h3:W.cell? ⟨k2,1,none⟩=some (.int .i64 y1)):
  Calls Tryz.prog 98 #[.slice (some ⟨k1,0,none⟩) 2 2, .slice (some ⟨k2,0,none⟩) 2 2] W fun e w'=>e= .returned (.int .i64 (YM x0 x1 y0 y1))∧w'=W:=by
 unfold YM
 by_cases g0:x0<y0
 ·rw [if_pos g0];exact Pd x0 x1 y0 y1 k1 k2 W h0 h1 h2 h3 (if_pos g0)
 ·by_cases g1:y0<x0
  ·rw [if_neg g0,if_pos g1];exact OG x0 x1 y0 y1 k1 k2 W h0 h1 h2 h3 (by unfold M6;rw [if_neg g0,if_pos g1])
  ·have e0:M6 x0 y0=0:=by unfold M6;rw [if_neg g0,if_neg g1]
   rw [if_neg g0,if_neg g1]
   by_cases g2:x1<y1
   ·rw [if_pos g2];exact OA x0 x1 y0 y1 k1 k2 W h0 h1 h2 h3 e0 (if_pos g2)
   ·by_cases g3:y1<x1
    ·rw [if_neg g2,if_pos g3];exact Oi x0 x1 y0 y1 k1 k2 W h0 h1 h2 h3 e0 (by unfold M6;rw [if_neg g2,if_pos g3])
    ·rw [if_neg g2,if_neg g3];exact NN x0 x1 y0 y1 k1 k2 W h0 h1 h2 h3 e0 (by unfold M6;rw [if_neg g2,if_neg g3])
set_option maxHeartbeats 2000000 in
theorem Lp (x0 x1 y0 y1:Int) (W:World):Calls Tryz.prog 208 #[.agg #[.int .i64 x0, .int .i64 x1], .agg #[.int .i64 y0, .int .i64 y1]] W fun e w'=>e= .returned (.int .i64 (YM x0 x1 y0 y1))∧ ∃q os',w'=grow (W.drewN q) os':=by
 go_enter Tryz.func208,Tryz.ntmps208
 go_wp2
 have hm:Tryz.prog.follows .mixedOrders=true:=by kernel_rfl
 refine wp_region_held (S:=fun _=>True) hm ?_
 obtain⟨V,hV⟩: ∃V,V=((W.alloc (.cells #[.int .i64 x0, .int .i64 x1] 145)).alloc (.cells #[.int .i64 y0, .int .i64 y1] 145)).drew:=⟨_,rfl⟩
 change wpAnyH _ _ _ _ _ 4 _ _ (World.drew ((W.alloc (.cells #[.int .i64 x0, .int .i64 x1] 145)).alloc (.cells #[.int .i64 y0, .int .i64 y1] 145)))
 rw [←hV]
 have b1:V.heap[W.heap.size+1]? =some (.cells #[.int .i64 y0, .int .i64 y1] 145 (0,0)):=by
  subst hV
  show((W.alloc (.cells #[.int .i64 x0, .int .i64 x1] 145)).alloc (.cells #[.int .i64 y0, .int .i64 y1] 145)).heap[W.heap.size+1]? =_
  rw [show W.heap.size+1=(W.alloc (.cells #[.int .i64 x0, .int .i64 x1] 145)).heap.size by simp];exact heap_alloc_new _ _
 have b0:V.heap[W.heap.size]? =some (.cells #[.int .i64 x0, .int .i64 x1] 145 (0,0)):=by
  subst hV
  show((W.alloc (.cells #[.int .i64 x0, .int .i64 x1] 145)).alloc (.cells #[.int .i64 y0, .int .i64 y1] 145)).heap[W.heap.size]? =_
  rw [heap_alloc_old _ _ (by simp)];exact heap_alloc_new W _
 have L:Hid _:=Gy x0 x1 y0 y1 W.heap.size (W.heap.size+1) V (by simp only [World.cell?,b0];rfl) (by simp only [World.cell?,b0];rfl) (by simp only [World.cell?,b1];rfl) (by simp only [World.cell?,b1];rfl)
 have hg:V=grow (W.drewN 1) #[.cells #[.int .i64 x0, .int .i64 x1] 145 (0,0), .cells #[.int .i64 y0, .int .i64 y1] 145 (0,0)]:=by
  subst hV
  rfl
 clear hV b0 b1
 refine take_at (i:=0) (d:=5) (v:= .slice (some ⟨W.heap.size,0,none⟩) 2 2) rfl rfl rfl (by kernel_rfl) (by kernel_rfl) (by kernel_rfl) (fun _ _ _ _ h _=>h) (fun U _=> ?_) trivial ?_
 ·clear hg
  go_simp
 simp only [List.setIfInBounds_toArray,List.set_cons_succ,List.set_cons_zero]
 refine take_at (i:=1) (d:=6) (v:= .slice (some ⟨W.heap.size+1,0,none⟩) 2 2) rfl rfl rfl (by kernel_rfl) (by kernel_rfl) (by kernel_rfl) (fun _ _ _ _ h _=>h) (fun U _=> ?_) trivial ?_
 ·clear hg
  go_simp
 simp only [List.setIfInBounds_toArray,List.set_cons_succ,List.set_cons_zero]
 have hgH:Hid _:=hg
 clear hg
 refine JQ (i:=2) (by kernel_rfl) rfl rfl (fun K hK=> ?_)
 go_wp2_with (go_at_call 98;refine Calls.mono L.out ?_;rintro e w' ⟨rfl,rfl⟩)
 refine⟨trivial, ?_⟩
 refine JQ (i:=3) (by kernel_rfl) rfl rfl (fun K hK=> ?_)
 go_wp2
 refine⟨trivial,wpAnyH_done (by kernel_rfl) ?_ _⟩
 go_wp2
 go_ret
 exact⟨rfl,1,_,hgH.out⟩
theorem MO {α:Type} [Inhabited α] (enc:α→List Value) (a0 a1:α→Int) (he: ∀x,enc x=[.int .i64 (a0 x), .int .i64 (a1 x)]) (blk off size:Nat) (w:World):
  CmpLays Tryz.prog 208 #[] enc 2 (fun x y=>YM (a0 x) (a1 x) (a0 y) (a1 y)) blk off size w:=by
 intro m os dk hs x y
 rw [he x,he y]
 exact Lp _ _ _ _ _
end Sg
