import Derived.Test.YtbjhjmcpfmhgdaaGreatWnLc
import Derived.SizedLaws
import Derived.Test.YtbjhjmcpfmhgdaaGreatWnGm
set_option linter.all false
namespace Sg
open Go Go.ChangeShapes Go.WideShapes Go.RowKit Go.Deep
end Sg

namespace Sg
open Go Go.ChangeShapes Go.WideShapes Go.RowKit Go.Deep
structure Rz (P:Program) (t:TypeId) (n:Nat) {α:Type} (c:α→Nat→DV) (S:α→Prop):Prop where
 size:P.cellsOf t=n
 rd: ∀{H:Type} {enc:TypeId × Value→H} {w:World} {fuel:Nat} {cs:List Value} {x:DataW H × List MemPlace},DataW.trod enc P w 0 (fun _=>true) true fuel t cs=some x→(∀q∈x.1.weights P t,q≤reachBytes)→
  ∃a:α,S a∧cs.length=n∧ ∀j,j<n→ ∃u,cs[j]? =some u∧aW (yx w) w (c a j) u
section
variable {P:Program} {t e:TypeId}
theorem Rd.z {n:Nat} {α:Type} {c:α→Nat→DV} {S:α→Prop} (h:Rd P t n c S):Rz P t n c S:=⟨h.size,fun h1 _=>h.rd h1⟩
theorem nG {H:Type}: ∀{l:List (DataW H)} {d:DataW H} {q:Nat},d∈l→q∈d.weights P e→q∈DataW.weightsAll P e l
 |[],_,_,h,_=>by cases h
 |d::r,d',q,h,hq=>by
  unfold DataW.weightsAll
  rw [List.mem_append]
  rcases List.mem_cons.1 h with rfl|h
  ·exact .inl hq
  ·exact .inr (nG h hq)
open Classical in
theorem Rz.slice {n b:Nat} {α:Type} [Inhabited α] {c:α→Nat→DV} {S:α→Prop} (ht:P.underlying t=some (.slice e)) (hs:P.cellsOf t=1) (hn:0<n) (hb:P.bytesOf e=b) (he:Rz P e n c S):Rz P t 1 (zR n c) (fun l=>l.length≤9223372036854775807∧(∀x∈l,S x)∧l.length*b≤140737488351232):=by
 refine⟨hs,fun{H enc w fuel cs x} h hz=> ?_⟩
 rcases open_slice ht h with⟨rfl,_⟩|⟨a,len,cap,m,fu,D,Pl,rfl,hbl,hl,hm,hmm,hxx,hx⟩
 ·refine⟨[],⟨by simp,by simp,by simp⟩,rfl,fun j hj=> ?_⟩
  have:j=0:=by omega
  subst this
  exact⟨_,rfl,none,0,rfl,by simp,by simp,by simp,Nat.le_refl _,by simp⟩
 ·simp only [if_true]at hmm
  subst hmm
  have hwt:x.1.weights P t=(((List.range len).map D).length+((List.range (m - len)).map fun j=>D (len+j)).length)*P.bytesOf e::(DataW.weightsAll P e ((List.range len).map D)++DataW.weightsAll P e ((List.range (m - len)).map fun j=>D (len+j))):=by
   rw [hxx];simp only [DataW.weights,ht]
  rw [hwt]at hz
  have hzi: ∀i,i<m→ ∀q∈(D i).weights P e,q≤reachBytes:=fun i hi q hq=>by
   refine hz q (List.mem_cons_of_mem _ (List.mem_append.2 ?_))
   by_cases h1:i<len
   ·exact .inl (nG (List.mem_map.2 ⟨i,List.mem_range.2 h1,rfl⟩) hq)
   ·exact .inr (nG (List.mem_map.2 ⟨i - len,List.mem_range.2 (by omega),by rw [show len+(i - len)=i by omega]⟩) hq)
  have hz0:len*b≤140737488351232:=by
   have:=hz _ List.mem_cons_self
   rw [List.length_map,List.length_map,List.length_range,List.length_range,hb,show len+(m - len)=m by omega]at this
   have h2:len*b≤m*b:=Nat.mul_le_mul_right _ hl
   have h3:reachBytes=140737488351232:=by decide
   omega
  have hel: ∀i,i<m→ ∃y:α,S y∧ ∀j,j<n→a.spot=none∧ ∃u,w.cell? ⟨a.block,a.off+(i*n+j),none⟩=some u∧aW (yx w) w (c y j) u:=by
   intro i hi
   obtain⟨cs',h1,h2⟩:=hx i hi
   rw [he.size]at h1
   obtain⟨y,hy,hlen,hc⟩:=he.rd h2 (hzi i hi)
   obtain⟨_,hcl,hat⟩:=World.cells?_some h1
   obtain⟨cs0,h10,h20⟩:=hx 0 (by omega)
   rw [he.size]at h10
   obtain⟨y0,_,hlen0,hc0⟩:=he.rd h20 (hzi 0 (by omega))
   obtain⟨_,_,hat0⟩:=World.cells?_some h10
   obtain⟨u0,hu0,_⟩:=hc0 0 hn
   have hsp:a.spot=none:=by
    have:=(hat0 0 hn).trans hu0
    simp only [Nat.zero_mul]at this
    have h3:=cell_spot this
    simpa [Addr.add]using h3
   refine⟨y,hy,fun j hj=> ⟨hsp, ?_⟩⟩
   obtain⟨u,hu,hr⟩:=hc j hj
   refine⟨u, ?_,hr⟩
   have:=(hat j hj).trans hu
   rw [mK hsp,mK rfl]at this
   rw [←this];simp only [Nat.add_assoc]
  let pick:Nat→α:=fun i=>if h:i<m then Classical.choose (hel i h)else default
  have hpick: ∀i,i<m→S (pick i)∧ ∀j,j<n→a.spot=none∧ ∃u,w.cell? ⟨a.block,a.off+(i*n+j),none⟩=some u∧aW (yx w) w (c (pick i) j) u:=by
   intro i hi
   show S (dite _ _ _)∧_
   simp only [pick,dif_pos hi]
   exact Classical.choose_spec (hel i hi)
  let l:List α:=(List.range len).map pick
  have hll:l.length=len:=by simp [l]
  have hat: ∀i,i<len→at' l i=pick i:=fun i hi=>by simp [at',l,hi]
  refine⟨l,⟨by rw [hll];exact Nat.le_trans (Nat.le_trans hl hm) (by decide),fun x hx=> ?_,by rw [hll];exact hz0⟩,rfl,fun j hj=> ?_⟩
  ·obtain⟨i,hi,rfl⟩:=List.mem_map.mp hx
   exact(hpick i (Nat.lt_of_lt_of_le (List.mem_range.mp hi) hl)).1
  ·have:j=0:=by omega
   subst this
   refine⟨_,rfl,some a,m, ?_,by simp,by simp,by simp,by rw [hll];exact hl,fun ad ha=> ?_⟩
   ·simp [hll]
   ·cases ha
    refine⟨fun h0=> ?_,fun i hi j hj=> ?_⟩
    ·exact((hpick 0 (by omega)).2 0 hn).1
    ·rw [hll]at hi
     obtain⟨_,u,hu,hr⟩:=(hpick i (by omega)).2 j hj
     exact⟨MO hu,u,hu,by show aW _ _ (c (at' l i) j) u;rw [hat i hi];exact hr⟩
theorem Rz.fields {fs:Array Field} {n:Nat} (ht:P.underlying t=some (.struct fs)) (hs:P.cellsOf t=n) {H:Type} {enc:TypeId × Value→H} {w:World} {fuel:Nat} {cs:List Value} {x:DataW H × List MemPlace}
  (h:DataW.trod enc P w 0 (fun _=>true) true fuel t cs=some x) (hz: ∀q∈x.1.weights P t,q≤reachBytes):cs.length=n∧ ∀(i:Nat) (f:Field),fs[i]? =some f→ ∃y,DataW.trod enc P w 0 (fun _=>true) true (fuel - 1) f.type ((cs.drop f.offset).take (P.cellsOf f.type))=some y∧ ∀q∈y.1.weights P f.type,q≤reachBytes:=by
 obtain⟨xs,m,rfl,hx,hl,hxl,hf⟩:=DataW.trod_struct ht h
 have hd:x.1= .agg (xs.map (·.1)):=congrArg Prod.fst hx
 refine⟨by rw [hl,hs],fun i f hi=> ?_⟩
 have hlt:=(Array.getElem?_eq_some_iff.mp hi).1
 have h1:=hf i f hi
 rw [List.getElem?_eq_getElem (by omega)]at h1
 refine⟨_,h1,fun q hq=>hz q ?_⟩
 rw [hd]
 simp only [DataW.weights,ht]
 refine DataW.weights_mem_each (j:=i) (t:=f.type) (d:=(xs[i]'(by omega)).1) ?_ ?_ _ hq
 ·rw [List.getElem?_map];simp [hi]
 ·rw [List.getElem?_map,List.getElem?_eq_getElem (by omega)];rfl
theorem Rz.field {n off:Nat} {α:Type} {c:α→Nat→DV} {S:α→Prop} (he:Rz P e n c S) {H:Type} {enc:TypeId × Value→H} {w:World} {fuel:Nat} {cs:List Value}
  (h: ∃y,DataW.trod enc P w 0 (fun _=>true) true fuel e ((cs.drop off).take (P.cellsOf e))=some y∧ ∀q∈y.1.weights P e,q≤reachBytes): ∃a:α,S a∧ ∀j,j<n→ ∃u,cs[off+j]? =some u∧aW (yx w) w (c a j) u:=by
 obtain⟨y,hy,hz⟩:=h
 rw [he.size]at hy
 obtain⟨a,ha,hl,hc⟩:=he.rd hy hz
 exact⟨a,ha,CZ hc⟩
theorem Rz.elems {m n:Nat} (ht:P.underlying t=some (.array m e)) (hs:P.cellsOf t=n) {H:Type} {enc:TypeId × Value→H} {w:World} {fuel:Nat} {cs:List Value} {x:DataW H × List MemPlace}
  (h:DataW.trod enc P w 0 (fun _=>true) true fuel t cs=some x) (hz: ∀q∈x.1.weights P t,q≤reachBytes):cs.length=n∧ ∀(i:Nat),i<m→ ∃y,DataW.trod enc P w 0 (fun _=>true) true (fuel - 1) e ((cs.drop (i*P.cellsOf e)).take (P.cellsOf e))=some y∧ ∀q∈y.1.weights P e,q≤reachBytes:=by
 obtain⟨xs,q,rfl,hx,hl,hxl,hf⟩:=DataW.trod_array ht h
 have hd:x.1= .agg (xs.map (·.1)):=congrArg Prod.fst hx
 refine⟨by rw [hl,hs],fun i hi=> ?_⟩
 have h1:=hf i hi
 rw [List.getElem?_eq_getElem (by omega)]at h1
 refine⟨_,h1,fun q hq=>hz q ?_⟩
 rw [hd]
 simp only [DataW.weights,ht]
 exact nG (List.mem_map.2 ⟨_,List.getElem_mem _,rfl⟩) hq
theorem Rz.agg {n:Nat} {α:Type} {c:α→Nat→DV} {S:α→Prop} (hr:Rz P t n c S) {fs:Array Field} (ht:P.underlying t=some (.struct fs)) {W:World} {b0:Nat} {v:Value} (hv:Value.okWide P W .any b0 t v)
  {H:Type} {enc:TypeId × Value→H} {d:DataW H} {ps:List MemPlace} (h:DataW.Trod enc P W 0 (fun _=>true) true t v d ps) (hz: ∀q∈d.weights P t,q≤reachBytes):
  ∃a:α,S a∧fC (fun _=>none) (yx W) W (.agg ((List.range n).map fun j=> .d (c a j))) v:=by
 obtain⟨cs,rfl,hsz⟩:=okWide_struct ht hv
 obtain⟨fuel,hf⟩:=h
 obtain⟨a,ha,hl,hc⟩:=hr.rd hf hz
 refine⟨a,ha,cs.toList,by simp,bA.lu (by rw [List.length_map,List.length_range];exact hl) fun j x hx=> ?_⟩
 have hj:j<n:=by
  have:=(List.getElem?_eq_some_iff.mp hx).1
  simpa using this
 obtain⟨u,hu,hru⟩:=hc j hj
 refine⟨u,hu, ?_⟩
 simp [hj]at hx
 subst hx
 exact hru
theorem Rz.one {α:Type} {c:α→Nat→DV} {S:α→Prop} (hr:Rz P t 1 c S) {W:World} {v:Value} (hv:v.cells.toList=[v])
  {H:Type} {enc:TypeId × Value→H} {d:DataW H} {ps:List MemPlace} (h:DataW.Trod enc P W 0 (fun _=>true) true t v d ps) (hz: ∀q∈d.weights P t,q≤reachBytes): ∃a:α,S a∧fC (fun _=>none) (yx W) W (.one (.d (c a 0))) v:=by
 obtain⟨fuel,hf⟩:=h
 rw [hv]at hf
 obtain⟨a,ha,hl,hc⟩:=hr.rd hf hz
 obtain⟨u,hu,hru⟩:=hc 0 (by omega)
 simp at hu;subst hu
 exact⟨a,ha,hru⟩
end
theorem wr {x:Int} (h: -9223372036854775808≤x∧x≤9223372036854775807):IntKind.wrap .i64 x=x:=by rw [IntKind.wrap_i64];omega
theorem l8 {σ ρ:Type} {body:σ→Option (aU σ ρ)}: ∀{n m:Nat} {s:σ} {r:ρ},aD body n s=some r→n≤m→aD body m s=some r
 |0,_,_,_,h,_=>by cases h
 |n+1,0,_,_,_,hm=>by omega
 |n+1,m+1,s,r,h,hm=>by
  rw [bE]at h ⊢
  revert h
  cases body s with
  |none=>exact id
  |some f=>
   cases f with
   |next s'=>exact fun h=>l8 h (by omega)
   |done r=>exact id
theorem Jk {σ ρ:Type} {body:σ→Option (aU σ ρ)} (S:Nat→σ) (k:Nat) (hs: ∀i,i<k→body (S i)=some (.next (S (i+1)))): ∀(m:Nat),aD body (k+m) (S 0)=aD body m (S k):=by
 induction k with
 |zero=>intro m;simp
 |succ k ih=>
  intro m
  have:=ih (fun i hi=>hs i (by omega)) (m+1)
  rw [show k+1+m=k+(m+1) by omega,this,bE,hs k (by omega)]
theorem bO {σ ρ:Type} {body:σ→Option (aU σ ρ)} {N:Nat} (S:Nat→σ) (k:Nat) (r:ρ) (hk:k<N) (hs: ∀i,i<k→body (S i)=some (.next (S (i+1)))) (hd:body (S k)=some (.done r)):aD body N (S 0)=some r:=by
 have h:=Jk S k hs 1
 have h1:aD body 1 (S k)=some r:=by rw [bE,hd]
 exact l8 (h.trans h1) (by omega)
theorem fuel_lt {k:Nat} (h:k≤9223372036854775807):k<FUEL:=by unfold FUEL;omega
section
variable {α:Type} [Inhabited α]
theorem gQ {l:List α} {i:Nat} (h:i<l.length):at' l i=l[i]:=by simp [at',h]
theorem at_mem {l:List α} {i:Nat} (h:i<l.length):at' l i∈l:=by rw [gQ h];exact List.getElem_mem h
theorem iY {l:List α} {x:α} (h:x∈l): ∃i,i<l.length∧at' l i=x:=by
 obtain⟨i,hi,e⟩:=List.mem_iff_getElem.mp h
 exact⟨i,hi,by rw [gQ hi];exact e⟩
theorem K6 {l m:List α} (hl:l.length=m.length) (h: ∀i,i<l.length→at' l i=at' m i):l=m:=by
 apply List.ext_getElem hl
 intro i h1 h2
 have:=h i h1
 rwa [gQ h1,gQ h2]at this
theorem vT {l:List α} {i:Nat} (h:i<l.length):l.take (i+1)=l.take i++[at' l i]:=by
 rw [gQ h,List.take_succ_eq_append_getElem h]
theorem oJ {ρ:Type} {body:Int→Option (aU Int (Ex Unit ρ))} (l:List α) (bad:α→Bool) (f:Int→ρ) (hl:l.length≤9223372036854775807)
  (hb: ∀i:Nat,i<l.length→body i=some (bif bad (at' l i)then .done (.ret (f i))else .next ((i:Int)+1))) (he:body l.length=some (.done (.brk ()))):
  aD body FUEL 0=some (match l.findIdx? bad with|some i=> .ret (f i)|none=> .brk ()):=by
 cases h:l.findIdx? bad with
 |none=>
  rw [List.findIdx?_eq_none_iff]at h
  refine bO (fun i=>(i:Int)) l.length _ (fuel_lt (by omega)) (fun i hi=> ?_) he
  rw [hb i hi,h _ (at_mem hi)];simp
 |some k=>
  rw [List.findIdx?_eq_some_iff_getElem]at h
  obtain⟨hk,hp,hn⟩:=h
  refine bO (fun i=>(i:Int)) k _ (fuel_lt (by omega)) (fun i hi=> ?_) ?_
  ·have:=hn i hi
   rw [hb i (by omega),gQ (by omega)]
   simp [this]
  ·rw [hb k hk,gQ hk,hp];rfl
omit [Inhabited α]in
theorem mG (l:List α) (bad:α→Bool):(decide ((0:Int)≤(match l.findIdx? bad with|some i=>(i:Int)|none=> -1)))=l.any bad:=by
 cases h:l.findIdx? bad with
 |none=>
  rw [List.findIdx?_eq_none_iff]at h
  have:l.any bad=false:=by rw [List.any_eq_false];intro x hx;simp [h x hx]
  rw [this];simp
 |some k=>
  rw [List.findIdx?_eq_some_iff_getElem]at h
  obtain⟨hk,hp,hn⟩:=h
  have:l.any bad=true:=by rw [List.any_eq_true];exact⟨_,List.getElem_mem hk,hp⟩
  rw [this];simp
end
section
variable {α:Type}
theorem Iz {a b:Int}:bM a b=true↔a=b:=by simp [bM]
theorem Ec (a:Int):bM a a=true:=Iz.mpr rfl
theorem Lr {a b:Int} (h:a≠b):bM a b=false:=by cases e:bM a b with|false=>rfl|true=>exact absurd (Iz.mp e) h
theorem fG (k:Int) (v:α): ∀l:List (Int × α),aS bM k (dQ bM k v l)=some v
 |[]=>by simp [dQ,aS,Ec]
 |(k',v')::l=>by
  unfold dQ
  cases e:bM k k' with
  |true=>simp [aS,Ec]
  |false=>simp only [cond_false,aS,e];exact fG k v l
theorem gG {k j:Int} (h:j≠k) (v:α): ∀l:List (Int × α),aS bM j (dQ bM k v l)=aS bM j l
 |[]=>by simp [dQ,aS,Lr h]
 |(k',v')::l=>by
  unfold dQ
  cases e:bM k k' with
  |true=>
   have:k=k':=Iz.mp e
   subst this
   simp [aS,Lr h]
  |false=>simp only [cond_false,aS,gG h v l]
end
theorem Ew {α:Type} (c:Bool) (x y:α):(bif c then some x else some y)=some (bif c then x else y):=by cases c<;>rfl
theorem o9 {ρ:Type} {body:Int→Option (aU Int (Ex Unit ρ))} (n:Nat) (bad:Nat→Bool) (f:Int→ρ) (hl:n≤9223372036854775807)
  (hb: ∀i:Nat,i<n→body i=some (bif bad i then .done (.ret (f i))else .next ((i:Int)+1))) (he:body n=some (.done (.brk ()))):
  aD body FUEL 0=some (match(List.range n).find? bad with|some i=> .ret (f i)|none=> .brk ()):=by
 cases h:(List.range n).find? bad with
 |none=>
  rw [List.find?_eq_none]at h
  refine bO (fun i=>(i:Int)) n _ (fuel_lt (by omega)) (fun i hi=> ?_) he
  rw [hb i hi]
  have:=h i (List.mem_range.mpr hi)
  simp at this;simp [this]
 |some k=>
  rw [List.find?_range_eq_some]at h
  obtain⟨hp,hk,hn⟩:=h
  rw [List.mem_range]at hk
  refine bO (fun i=>(i:Int)) k _ (fuel_lt (by omega)) (fun i hi=> ?_) ?_
  ·have:=hn i hi
   rw [hb i (by omega)]
   simp at this;simp [this]
  ·rw [hb k hk,hp];rfl
theorem xE {α:Type} (p:α→Bool): ∀l:List α,(l.find? p).isSome=l.any p
 |[]=>rfl
 |x::l=>by
  rw [List.any_cons,List.find?_cons]
  cases h:p x with
  |true=>simp
  |false=>simpa using xE p l
def wi (n a b:Int):Bool:=decide (a≤n) && decide (n≤b)
theorem tF {n a b:Int}:wi n a b=true↔a≤n∧n≤b:=by simp [wi]
theorem iE (n a b:Int):aN n a b=some (wi n a b):=by
 unfold aN wi;cases decide (a≤n)<;>rfl
def sO (b:Int) (x:Source):Bool:=wi x.bus 0 (b - 1) && wi x.kind 1 3 && wi x.power 1 100000 && wi x.sync 0 8 && wi x.ohm 10 100000
theorem Ot {b:Int} (hb:1≤b∧b≤24) (x:Source) (l1:List Source) (l2:List Link) (l3:List aM):kW x b l1 l2 l3=some (sO b x):=by
 unfold kW sO
 simp only [iE,Option.bind_some]
 rw [wr (by omega)]
 generalize wi x.bus 0 (b - 1)=b1
 generalize wi x.kind 1 3=b2
 generalize wi x.power 1 100000=b3
 generalize wi x.sync 0 8=b4
 generalize wi x.ohm 10 100000=b5
 cases b1<;>cases b2<;>cases b3<;>cases b4<;>cases b5<;>rfl
def su (l:List mE) (i:Nat):Bool:=
 !wi (at' l i).amps 1 1000000|| !wi (at' l i).millis 1 100000||(decide (0<i) && (decide ((at' l i).amps≤(at' l (i - 1)).amps)||decide ((at' l (i - 1)).millis≤(at' l i).millis)))
def mW (b:Int) (x:Link):Bool:=
 wi x.a 0 (b - 1) && wi x.b 0 (b - 1) && !decide (x.a=x.b) && wi x.kind 1 3 && wi x.most 1 100000 && wi x.ohm 10 100000 && !(List.range x.trip.length).any (su x.trip) && decide ((x.trip.length:Int)≤6) && (decide ((x.trip.length:Int)=0)||decide (x.kind=3))
theorem Sk {α:Type} [Inhabited α] (l:List α) (i:Nat) (h:0<i):at' l (((i:Int) - 1).toNat)=at' l (i - 1):=by
 congr 1;omega
theorem Sm (x:Link) (hx:x.trip.length≤9223372036854775807):aD (kg x) FUEL 0=some (match(List.range x.trip.length).find? (su x.trip)with|some _=> .ret false|none=> .brk ()):=by
 refine o9 x.trip.length (su x.trip) (fun _=>false) hx (fun i hi=> ?_) ?_
 ·unfold kg
  have h1:decide ((i:Int)<(x.trip.length:Int))=true:=by simp;omega
  rw [h1,cond_true,aA (by omega)]
  simp only [iE,Option.bind_some,Int.toNat_natCast]
  rw [wr (x:=(i:Int) - 1) (by omega),wr (x:=(i:Int)+1) (by omega)]
  unfold su
  by_cases h0:0<i
  ·rw [Sk _ _ h0]
   simp only [h0,Int.natCast_pos,decide_true]
   generalize wi (at' x.trip i).amps 1 1000000=b1
   generalize wi (at' x.trip i).millis 1 100000=b2
   generalize decide ((at' x.trip i).amps≤(at' x.trip (i - 1)).amps)=b3
   generalize decide ((at' x.trip (i - 1)).millis≤(at' x.trip i).millis)=b4
   cases b1<;>cases b2<;>cases b3<;>cases b4<;>simp [gB,cu]<;>omega
  ·have:i=0:=by omega
   subst this
   generalize wi (at' x.trip 0).amps 1 1000000=b1
   generalize wi (at' x.trip 0).millis 1 100000=b2
   cases b1<;>cases b2<;>simp [gB,cu]
 ·unfold kg
  have h1:decide ((x.trip.length:Int)<(x.trip.length:Int))=false:=by simp
  rw [h1];rfl
theorem RP {b:Int} (hb:1≤b∧b≤24) (x:Link) (hx:x.trip.length≤9223372036854775807) (l1:List Source) (l2:List Link) (l3:List aM):nO x b l1 l2 l3=some (mW b x):=by
 unfold nO mW
 simp only [iE,Option.bind_some]
 rw [wr (by omega),Sm x hx]
 generalize wi x.a 0 (b - 1)=b1
 generalize wi x.b 0 (b - 1)=b2
 generalize decide (x.a=x.b)=b3
 generalize wi x.kind 1 3=b4
 generalize wi x.most 1 100000=b5
 generalize wi x.ohm 10 100000=b6
 have:(List.range x.trip.length).any (su x.trip)=((List.range x.trip.length).find? (su x.trip)).isSome:=(xE _ _).symm
 rw [this]
 cases b1<;>cases b2<;>cases b3<;>cases b4<;>cases b5<;>cases b6<;>try rfl
 cases(List.range x.trip.length).find? (su x.trip)with
 |some k=>simp [gB]
 |none=>
  simp only [gB,Option.bind_some,Option.isSome_none]
  generalize decide ((x.trip.length:Int)≤6)=c1
  generalize decide ((x.trip.length:Int)=0)=c2
  generalize decide (x.kind=3)=c3
  cases c1<;>cases c2<;>cases c3<;>rfl
def yI (x:aM):Int:=if x.feeds.e1= -1 then 1 else 2
def nQ (b:Int) (x:aM):Bool:=wi x.feeds.e0 0 (b - 1) && wi x.feeds.e1 (-1) (b - 1) && !decide (x.feeds.e0=x.feeds.e1) && wi x.power 1 100000 && wi x.paths 0 (yI x)
theorem Rx (x:aM):oN x=some (yI x):=by
 unfold oN yI
 by_cases h:x.feeds.e1= -1<;>simp [h]
theorem R8 {b:Int} (hb:1≤b∧b≤24) (x:aM) (l1:List Source) (l2:List Link) (l3:List aM):nU x b l1 l2 l3=some (nQ b x):=by
 unfold nU nQ
 simp only [iE,Option.bind_some,Rx]
 rw [wr (by omega)]
 generalize wi x.feeds.e0 0 (b - 1)=b1
 generalize wi x.feeds.e1 (-1) (b - 1)=b2
 generalize decide (x.feeds.e0=x.feeds.e1)=b3
 generalize hb4:wi x.power 1 100000=b4
 cases b1<;>cases b2<;>cases b3<;>cases b4<;>simp [gB]<;>rfl
theorem oZ {α ρ:Type} [Inhabited α] {l:List α} {i:Nat} (hi:i<l.length) (hl:l.length≤9223372036854775807) (b:Bool) (f:Int→ρ) (G:Option (aU Int (Ex Unit ρ))):
  (bif (decide ((i:Int)<(l.length:Int)))then((some b).bind fun r_=>cu ((0:Int)≤(i:Int)∧(i:Int)<(l.length:Int)) (bif r_ then some (.done (.ret (f (i:Int))))else some (.next (IntKind.wrap .i64 ((i:Int)+1)))))else G)=some (bif b then .done (.ret (f i))else .next ((i:Int)+1)):=by
 have h1:decide ((i:Int)<(l.length:Int))=true:=by simp;omega
 rw [h1,cond_true,Option.bind_some,aA (by omega),wr (by omega)]
 cases b<;>rfl
theorem Pt {b:Int} (hb:1≤b∧b≤24) (l:List Source) (hl:l.length≤9223372036854775807) (m:Int) (l1:List Source) (l2:List Link) (l3:List aM):
  ql l m b l1 l2 l3=some (decide ((l.length:Int)≤m) && l.all (sO b)):=by
 have hs:ic l b l1 l2 l3=some (l.any fun x=> !sO b x):=by
  unfold ic lY
  rw [oJ l (fun x=> !sO b x) id hl (fun i hi=> ?_) ?_]
  ·rw [←mG];cases l.findIdx? fun x=> !sO b x<;>rfl
  ·unfold jU;simp
  ·unfold jU qZ
   rw [Int.toNat_natCast,Ot hb,Option.bind_some]
   exact oZ hi hl _ id _
 unfold ql
 rw [hs]
 have:(!l.any fun x=> !sO b x)=l.all (sO b):=by rw [List.not_any_eq_all_not];simp
 rw [←this]
 cases decide ((l.length:Int)≤m)<;>simp [gB]
theorem NU {b:Int} (hb:1≤b∧b≤24) (l:List Link) (hl:l.length≤9223372036854775807) (ht: ∀x∈l,x.trip.length≤9223372036854775807) (m:Int) (l1:List Source) (l2:List Link) (l3:List aM):
  nR l m b l1 l2 l3=some (decide ((l.length:Int)≤m) && l.all (mW b)):=by
 have hs:fw l b l1 l2 l3=some (l.any fun x=> !mW b x):=by
  unfold fw jQ
  rw [oJ l (fun x=> !mW b x) id hl (fun i hi=> ?_) ?_]
  ·rw [←mG];cases l.findIdx? fun x=> !mW b x<;>rfl
  ·unfold iP;simp
  ·unfold iP nJ
   rw [Int.toNat_natCast,RP hb _ (ht _ (at_mem hi)),Option.bind_some]
   exact oZ hi hl _ id _
 unfold nR
 rw [hs]
 have:(!l.any fun x=> !mW b x)=l.all (mW b):=by rw [List.not_any_eq_all_not];simp
 rw [←this]
 cases decide ((l.length:Int)≤m)<;>simp [gB]
theorem OP {b:Int} (hb:1≤b∧b≤24) (l:List aM) (hl:l.length≤9223372036854775807) (m:Int) (l1:List Source) (l2:List Link) (l3:List aM):
  nE l m b l1 l2 l3=some (decide ((l.length:Int)≤m) && l.all (nQ b)):=by
 have hs:fA l b l1 l2 l3=some (l.any fun x=> !nQ b x):=by
  unfold fA jZ
  rw [oJ l (fun x=> !nQ b x) id hl (fun i hi=> ?_) ?_]
  ·rw [←mG];cases l.findIdx? fun x=> !nQ b x<;>rfl
  ·unfold iR;simp
  ·unfold iR nP
   rw [Int.toNat_natCast,R8 hb,Option.bind_some]
   exact oZ hi hl _ id _
 unfold nE
 rw [hs]
 have:(!l.any fun x=> !nQ b x)=l.all (nQ b):=by rw [List.not_any_eq_all_not];simp
 rw [←this]
 cases decide ((l.length:Int)≤m)<;>simp [gB]
structure Small (p:aC):Prop where
 src:p.sources.length≤9223372036854775807
 lnk:p.links.length≤9223372036854775807
 rck:p.racks.length≤9223372036854775807
 trp: ∀x∈p.links,x.trip.length≤9223372036854775807
def vQ (p:aC):Int:=
 if wi p.buses 1 24=false then 10 else if(decide ((p.sources.length:Int)≤8) && p.sources.all (sO p.buses))=false then 11
 else if(decide ((p.links.length:Int)≤40) && p.links.all (mW p.buses))=false then 12 else if(decide ((p.racks.length:Int)≤24) && p.racks.all (nQ p.buses))=false then 13 else 0
theorem JM (p:aC) (hp:Small p):lK p=some (vQ p):=by
 unfold lK vQ
 simp only [iE,Option.bind_some,rA,vF,vK]
 cases h0:wi p.buses 1 24 with
 |false=>simp
 |true=>
  have hb:=tF.mp h0
  rw [Pt hb _ hp.src,NU hb _ hp.lnk hp.trp,OP hb _ hp.rck]
  simp only [Option.bind_some,Bool.not_true,cond_false]
  generalize (decide ((p.sources.length:Int)≤8) && p.sources.all (sO p.buses))=b1
  generalize (decide ((p.links.length:Int)≤40) && p.links.all (mW p.buses))=b2
  generalize (decide ((p.racks.length:Int)≤24) && p.racks.all (nQ p.buses))=b3
  cases b1<;>cases b2<;>cases b3<;>simp
def pK (p:aC) (s:State):Bool:=
 decide (s.closed.length=p.links.length) && decide (s.locked.length=p.links.length) && decide (s.badLink.length=p.links.length) && decide (s.on_.length=p.sources.length) && decide (s.badSource.length=p.sources.length) &&
 decide ((s.earthed.length:Int)=p.buses) && decide ((s.badBus.length:Int)=p.buses)
def kG (p:aC) (s:State) (i:Nat):Bool:=decide ((at' p.links i).kind=1) && (!at' s.closed i||at' s.locked i)
def sZ (p:aC) (s:State):Int:=if vQ p≠0 then vQ p else if pK p s && !(List.range p.links.length).any (kG p s)then 0 else 9
theorem lI (p:aC) (s:State) (hp:Small p):dN p s=some (sZ p s):=by
 unfold dN sZ
 rw [JM p hp,Option.bind_some]
 by_cases hc:vQ p=0
 ·rw [hc]
  simp only [decide_true,Bool.not_true,cond_false,ne_eq,not_true_eq_false,if_false]
  have h0:aD (iw p s) FUEL 0=some (bif pK p s then .brk ()else .ret 9):=by
   have key:=o9 (body:=iw p s) 7 (fun i=> !decide (((at' [(⟨s.closed,(p.links.length:Int)⟩:bQ),(⟨s.locked,(p.links.length:Int)⟩:bQ),(⟨s.badLink,(p.links.length:Int)⟩:bQ),(⟨s.on_,(p.sources.length:Int)⟩:bQ),(⟨s.badSource,(p.sources.length:Int)⟩:bQ),(⟨s.earthed,p.buses⟩:bQ),(⟨s.badBus,p.buses⟩:bQ)] i).l.length:Int)=(at' [(⟨s.closed,(p.links.length:Int)⟩:bQ),(⟨s.locked,(p.links.length:Int)⟩:bQ),(⟨s.badLink,(p.links.length:Int)⟩:bQ),(⟨s.on_,(p.sources.length:Int)⟩:bQ),(⟨s.badSource,(p.sources.length:Int)⟩:bQ),(⟨s.earthed,p.buses⟩:bQ),(⟨s.badBus,p.buses⟩:bQ)] i).n)) (fun _=>(9:Int)) (by omega) (fun i hi=> ?_) ?_
   ·rw [key]
    have e:((List.range 7).find? fun i=> !decide (((at' [(⟨s.closed,(p.links.length:Int)⟩:bQ),(⟨s.locked,(p.links.length:Int)⟩:bQ),(⟨s.badLink,(p.links.length:Int)⟩:bQ),(⟨s.on_,(p.sources.length:Int)⟩:bQ),(⟨s.badSource,(p.sources.length:Int)⟩:bQ),(⟨s.earthed,p.buses⟩:bQ),(⟨s.badBus,p.buses⟩:bQ)] i).l.length:Int)=(at' [(⟨s.closed,(p.links.length:Int)⟩:bQ),(⟨s.locked,(p.links.length:Int)⟩:bQ),(⟨s.badLink,(p.links.length:Int)⟩:bQ),(⟨s.on_,(p.sources.length:Int)⟩:bQ),(⟨s.badSource,(p.sources.length:Int)⟩:bQ),(⟨s.earthed,p.buses⟩:bQ),(⟨s.badBus,p.buses⟩:bQ)] i).n)).isSome= !pK p s:=by
     rw [show List.range 7=[0,1,2,3,4,5,6]from rfl,xE]
     simp only [List.any_cons,List.any_nil,at',List.getD_cons_zero,List.getD_cons_succ,pK,Int.natCast_inj]
     simp [Bool.or_assoc]
    revert e
    cases hf:(List.range 7).find? _ with
    |none=>
     intro e
     have:pK p s=true:=by simpa using e.symm
     rw [this];rfl
    |some k=>
     intro e
     have:pK p s=false:=by simpa using e.symm
     rw [this];rfl
   ·have h1:decide ((i:Int)<7)=true:=by simp;omega
    unfold iw
    rw [show([(⟨s.closed,(p.links.length:Int)⟩:bQ),(⟨s.locked,(p.links.length:Int)⟩:bQ),(⟨s.badLink,(p.links.length:Int)⟩:bQ),(⟨s.on_,(p.sources.length:Int)⟩:bQ),(⟨s.badSource,(p.sources.length:Int)⟩:bQ),(⟨s.earthed,p.buses⟩:bQ),(⟨s.badBus,p.buses⟩:bQ)].length:Int)=7 from rfl,h1,cond_true,aA (by omega),Int.toNat_natCast,wr (by omega)]
    exact Ew _ _ _
   ·rfl
  rw [h0,Option.bind_some]
  cases hL:pK p s with
  |false=>rfl
  |true=>
   simp only [cond_true,Bool.true_and]
   simp only [pK,Bool.and_eq_true,decide_eq_true_eq]at hL
   have h1:aD (ig p s) FUEL 0=some (match(List.range p.links.length).find? (kG p s)with|some _=> .ret 9|none=> .brk ()):=by
    refine o9 p.links.length (kG p s) (fun _=>9) hp.lnk (fun i hi=> ?_) ?_
    ·unfold ig kG
     have h1:decide ((i:Int)<(p.links.length:Int))=true:=by simp;omega
     have:=hp.lnk
     rw [h1,cond_true,aA (by omega),Int.toNat_natCast,wr (by omega),aA ⟨fun _=>by omega,fun _=>by omega⟩]
     generalize decide ((at' p.links i).kind=1)=b1
     generalize at' s.closed i=b2
     generalize at' s.locked i=b3
     cases b1<;>cases b2<;>cases b3<;>rfl
    ·unfold ig;simp
   rw [h1,Option.bind_some]
   have:(List.range p.links.length).any (kG p s)=((List.range p.links.length).find? (kG p s)).isSome:=(xE _ _).symm
   rw [this]
   cases(List.range p.links.length).find? (kG p s)<;>rfl
 ·have:decide (vQ p=0)=false:=by simp [hc]
  rw [this]
  simp [hc]
structure VL (b:Int) (x:Link):Prop where
 a:0≤x.a∧x.a<b
 b:0≤x.b∧x.b<b
 ab:x.a≠x.b
 kind:1≤x.kind∧x.kind≤3
 most:1≤x.most∧x.most≤100000
 ohm:10≤x.ohm∧x.ohm≤100000
 tl:x.trip.length≤6
 trip: ∀i,i<x.trip.length→su x.trip i=false
 trk:x.trip=[]∨x.kind=3
structure WG (b:Int) (x:Source):Prop where
 bus:0≤x.bus∧x.bus<b
 kind:1≤x.kind∧x.kind≤3
 power:1≤x.power∧x.power≤100000
 sync:0≤x.sync∧x.sync≤8
 ohm:10≤x.ohm∧x.ohm≤100000
structure VR (b:Int) (x:aM):Prop where
 e0:0≤x.feeds.e0∧x.feeds.e0<b
 e1: -1≤x.feeds.e1∧x.feeds.e1<b
 ne:x.feeds.e0≠x.feeds.e1
 power:1≤x.power∧x.power≤100000
 paths:0≤x.paths∧x.paths≤yI x
structure VP (p:aC):Prop where
 b:1≤p.buses∧p.buses≤24
 sl:p.sources.length≤8
 src: ∀i,i<p.sources.length→WG p.buses (at' p.sources i)
 ll:p.links.length≤40
 lnk: ∀i,i<p.links.length→VL p.buses (at' p.links i)
 rl:p.racks.length≤24
 rck: ∀i,i<p.racks.length→VR p.buses (at' p.racks i)
structure VS (p:aC) (s:State):Prop where
 closed:s.closed.length=p.links.length
 locked:s.locked.length=p.links.length
 badLink:s.badLink.length=p.links.length
 on:s.on_.length=p.sources.length
 badSource:s.badSource.length=p.sources.length
 earthed:(s.earthed.length:Int)=p.buses
 badBus:(s.badBus.length:Int)=p.buses
 cable: ∀i,i<p.links.length→(at' p.links i).kind=1→at' s.closed i=true∧at' s.locked i=false
theorem F9 {b:Int} {x:Source}:sO b x=true↔WG b x:=by
 simp only [sO,Bool.and_eq_true,tF]
 exact⟨fun⟨⟨⟨⟨h1,h2⟩,h3⟩,h4⟩,h5⟩=> ⟨by omega,h2,h3,h4,h5⟩,fun h=> ⟨⟨⟨⟨by have:=h.bus;omega,h.kind⟩,h.power⟩,h.sync⟩,h.ohm⟩⟩
theorem Fy {b:Int} {x:aM}:nQ b x=true↔VR b x:=by
 simp only [nQ,Bool.and_eq_true,tF,Bool.not_eq_true',decide_eq_false_iff_not]
 exact⟨fun⟨⟨⟨⟨h1,h2⟩,h3⟩,h4⟩,h5⟩=> ⟨by omega,by omega,h3,h4,h5⟩,fun h=> ⟨⟨⟨⟨by have:=h.e0;omega,by have:=h.e1;omega⟩,h.ne⟩,h.power⟩,h.paths⟩⟩
theorem Fx {b:Int} {x:Link}:mW b x=true↔VL b x:=by
 simp only [mW,Bool.and_eq_true,tF,Bool.not_eq_true',decide_eq_false_iff_not,Bool.or_eq_true,decide_eq_true_eq,List.any_eq_false,List.mem_range,Bool.not_eq_true]
 constructor
 ·rintro ⟨⟨⟨⟨⟨⟨⟨⟨h1,h2⟩,h3⟩,h4⟩,h5⟩,h6⟩,h7⟩,h8⟩,h9⟩
  exact⟨by omega,by omega,h3,h4,h5,h6,by omega,h7,h9.imp (fun h=>List.eq_nil_of_length_eq_zero (by omega)) id⟩
 ·intro h
  refine⟨⟨⟨⟨⟨⟨⟨⟨by have:=h.a;omega,by have:=h.b;omega⟩,h.ab⟩,h.kind⟩,h.most⟩,h.ohm⟩,h.trip⟩,by have:=h.tl;omega⟩,h.trk.imp (fun e=>by simp [e]) id⟩
theorem xX {p:aC}:vQ p=0↔VP p:=by
 unfold vQ
 constructor
 ·intro h
  cases h0:wi p.buses 1 24 with
  |false=>rw [h0]at h;simp at h
  |true=>
   rw [h0]at h
   cases h1:(decide ((p.sources.length:Int)≤8) && p.sources.all (sO p.buses))with
   |false=>rw [h1]at h;simp at h
   |true=>
    rw [h1]at h
    cases h2:(decide ((p.links.length:Int)≤40) && p.links.all (mW p.buses))with
    |false=>rw [h2]at h;simp at h
    |true=>
     rw [h2]at h
     cases h3:(decide ((p.racks.length:Int)≤24) && p.racks.all (nQ p.buses))with
     |false=>rw [h3]at h;simp at h
     |true=>
      simp only [Bool.and_eq_true,decide_eq_true_eq,List.all_eq_true]at h1 h2 h3
      exact⟨tF.mp h0,by omega,fun i hi=>F9.mp (h1.2 _ (at_mem hi)),by omega,fun i hi=>Fx.mp (h2.2 _ (at_mem hi)),by omega,fun i hi=>Fy.mp (h3.2 _ (at_mem hi))⟩
 ·intro h
  have h0:wi p.buses 1 24=true:=tF.mpr h.b
  have h1:(decide ((p.sources.length:Int)≤8) && p.sources.all (sO p.buses))=true:=by
   simp only [Bool.and_eq_true,decide_eq_true_eq,List.all_eq_true]
   exact⟨by have:=h.sl;omega,fun x hx=>by obtain⟨i,hi,rfl⟩:=iY hx;exact F9.mpr (h.src i hi)⟩
  have h2:(decide ((p.links.length:Int)≤40) && p.links.all (mW p.buses))=true:=by
   simp only [Bool.and_eq_true,decide_eq_true_eq,List.all_eq_true]
   exact⟨by have:=h.ll;omega,fun x hx=>by obtain⟨i,hi,rfl⟩:=iY hx;exact Fx.mpr (h.lnk i hi)⟩
  have h3:(decide ((p.racks.length:Int)≤24) && p.racks.all (nQ p.buses))=true:=by
   simp only [Bool.and_eq_true,decide_eq_true_eq,List.all_eq_true]
   exact⟨by have:=h.rl;omega,fun x hx=>by obtain⟨i,hi,rfl⟩:=iY hx;exact Fy.mpr (h.rck i hi)⟩
  rw [h0,h1,h2,h3];rfl
theorem VP.small {p:aC} (h:VP p):Small p:=by
 refine⟨by have:=h.sl;omega,by have:=h.ll;omega,by have:=h.rl;omega,fun x hx=> ?_⟩
 obtain⟨i,hi,rfl⟩:=iY hx
 have:=(h.lnk i hi).tl;omega
theorem mJ {p:aC} {s:State}:sZ p s=0↔VP p∧VS p s:=by
 unfold sZ
 by_cases hc:vQ p=0
 ·rw [if_neg (by simp [hc])]
  have hv:=xX.mp hc
  constructor
  ·intro h
   cases h1:(pK p s && !(List.range p.links.length).any (kG p s))with
   |false=>rw [h1]at h;simp at h
   |true=>
    simp only [pK,Bool.and_eq_true,decide_eq_true_eq,Bool.not_eq_true',List.any_eq_false,List.mem_range,kG,Bool.or_eq_true,not_and,not_or,Bool.not_eq_true]at h1
    obtain⟨⟨⟨⟨⟨⟨⟨h1,h2⟩,h3⟩,h4⟩,h5⟩,h6⟩,h7⟩,h8⟩:=h1
    exact⟨hv,h1,h2,h3,h4,h5,h6,h7,fun i hi hk=>by have:=h8 i hi hk;simpa using this⟩
  ·rintro ⟨_,h⟩
   have:(pK p s && !(List.range p.links.length).any (kG p s))=true:=by
    simp only [pK,Bool.and_eq_true,decide_eq_true_eq,Bool.not_eq_true',List.any_eq_false,List.mem_range,kG,Bool.or_eq_true,not_and,not_or,Bool.not_eq_true]
    exact⟨⟨⟨⟨⟨⟨⟨h.closed,h.locked⟩,h.badLink⟩,h.on⟩,h.badSource⟩,h.earthed⟩,h.badBus⟩,fun i hi hk=>by have:=h.cable i hi hk;simpa using this⟩
   rw [this];rfl
 ·rw [if_pos hc]
  exact⟨fun h=>absurd h hc,fun h=>absurd (xX.mpr h.1) hc⟩
def Di (p:aC) (s:State) (i:Nat):Bool:=at' s.closed i && !at' s.badLink i && !at' s.badBus (at' p.links i).a.toNat && !at' s.badBus (at' p.links i).b.toNat
def o7 (p:aC) (s:State) (k:Nat):Bool:=at' s.on_ k && !at' s.badSource k && !at' s.badBus (at' p.sources k).bus.toNat
inductive Wk (p:aC) (s:State) (b:Nat):List Int→Nat→Prop where
 |nil:Wk p s b [] b
 |snoc {l:List Int} {v w i:Nat}:Wk p s b l v→i<p.links.length→Di p s i=true→
   ((at' p.links i).a.toNat=v∧(at' p.links i).b.toNat=w∨(at' p.links i).b.toNat=v∧(at' p.links i).a.toNat=w)→Wk p s b (l++[(i:Int)]) w
def tab {α:Type} (n:Nat) (f:Nat→α):List α:=(List.range n).map f
section
variable {α:Type} [Inhabited α]
theorem kR (n:Nat) (f:Nat→α):(tab n f).length=n:=by simp [tab]
theorem Nu {n:Nat} {f g:Nat→α} (h: ∀i,i<n→f i=g i):tab n f=tab n g:=by
 unfold tab;exact List.map_congr_left fun i hi=>h i (List.mem_range.mp hi)
end
structure UN (s:State):Prop where
 l0:s.closed.length≤1000000000
 l1:s.locked.length≤1000000000
 l2:s.badLink.length≤1000000000
 l3:s.on_.length≤1000000000
 l4:s.badSource.length≤1000000000
 l5:s.earthed.length≤1000000000
 l6:s.badBus.length≤1000000000
theorem VS.small {p:aC} {s:State} (hp:VP p) (h:VS p s):UN s:=by
 have h1:=hp.ll;have h2:=hp.sl;have h3:=hp.b
 obtain⟨a1,a2,a3,a4,a5,a6,a7,_⟩:=h
 exact⟨by omega,by omega,by omega,by omega,by omega,by omega,by omega⟩
section
variable {p:aC} {s:State} (hp:VP p) (hs:VS p s)
include hp hs
end
def Ch (hd:List (Int × Int)):Nat→Int→Int→Prop
 |0,x,r=>aS bM x hd=none∧r=x
 |k+1,x,r=> ∃y,aS bM x hd=some y∧Ch hd k y r
theorem of_run {hd:List (Int × Int)}: ∀(k:Nat) (x r:Int),Ch hd k x r→aD (dR ⟨hd⟩) (k+1) x=some (.ret r)
 |0,x,r,h=>by
  obtain⟨h,e⟩:=h
  rw [bE];unfold dR;simp [h,e]
 |k+1,x,r,h=>by
  obtain⟨y,h,hc⟩:=h
  have:dR ⟨hd⟩ x=some (.next y):=by unfold dR;simp [h]
  rw [bE,this]
  exact of_run k y r hc
theorem of_eq {hd:List (Int × Int)} {k:Nat} {x r:Int} (h:Ch hd k x r) (hk:k≤1000):bR ⟨hd⟩ x=some r:=by
 unfold bR
 rw [l8 (of_run k x r h) (by unfold FUEL;omega)];rfl
theorem Ch.root {hd:List (Int × Int)}: ∀{k:Nat} {x r:Int},Ch hd k x r→aS bM r hd=none
 |0,x,r,h=>by obtain⟨h,e⟩:=h;rw [e];exact h
 |k+1,x,r,h=>by obtain⟨y,_,hc⟩:=h;exact hc.root
theorem Ch.set {hd:List (Int × Int)} {a b:Int} (hab:a≠b) (ha:aS bM a hd=none) (hb:aS bM b hd=none): ∀{k:Nat} {x r:Int},Ch hd k x r→
  ∃k',k'≤k+1∧Ch (dQ bM a b hd) k' x (if r=a then b else r)
 |0,x,r,h=>by
  obtain⟨h,e⟩:=h
  subst e
  by_cases e:r=a
  ·subst e
   rw [if_pos rfl]
   exact⟨1,by omega,b,fG _ _ _,by rw [gG (Ne.symm hab)];exact hb,rfl⟩
  ·rw [if_neg e]
   exact⟨0,by omega,by rw [gG e];exact h,rfl⟩
 |k+1,x,r,h=>by
  obtain⟨y,h,hc⟩:=h
  obtain⟨k',hk,hc'⟩:=hc.set hab ha hb
  have:x≠a:=fun e=>by rw [e,ha]at h;cases h
  exact⟨k'+1,by omega,y,by rw [gG this];exact h,hc'⟩
section
variable {p:aC} {s:State}
theorem Wk.trans {u v w:Nat} {l m:List Int} (h:Wk p s u l v) (h':Wk p s v m w):Wk p s u (l++m) w:=by
 induction h' with
 |nil=>simpa using h
 |snoc _ hi hc he ih=>rw [←List.append_assoc];exact ih.snoc hi hc he
theorem Wk.symm {u v:Nat} {l:List Int} (h:Wk p s u l v): ∃m,Wk p s v m u:=by
 induction h with
 |nil=>exact⟨[], .nil⟩
 |snoc _ hi hc he ih=>
  obtain⟨m,hm⟩:=ih
  exact⟨_,(Wk.nil.snoc hi hc (he.symm.imp id id|>.elim (fun⟨a,b⟩=> .inl ⟨b,a⟩) fun⟨a,b⟩=> .inr ⟨b,a⟩)).trans hm⟩
def qA (p:aC) (s:State):Nat→List (Int × Int) × (Int→Int)
 |0=>([],id)
 |n+1=>
  let q:=qA p s n
  if Di p s n=true∧q.2 (at' p.links n).a≠q.2 (at' p.links n).b then
   (dQ bM (q.2 (at' p.links n).a) (q.2 (at' p.links n).b) q.1,fun x=>if q.2 x=q.2 (at' p.links n).a then q.2 (at' p.links n).b else q.2 x)
  else q
structure UF (p:aC) (s:State) (n:Nat) (hd:List (Int × Int)) (f:Int→Int):Prop where
 ch: ∀x,∃k,k≤n∧Ch hd k x (f x)
 cn: ∀x:Nat,(x:Int)<p.buses→0≤f x∧f x<p.buses∧ ∃l,Wk p s x l (f x).toNat
 ed: ∀i,i<n→Di p s i=true→f (at' p.links i).a=f (at' p.links i).b
theorem uf (hp:VP p): ∀n,n≤p.links.length→UF p s n (qA p s n).1 (qA p s n).2
 |0,_=> ⟨fun x=> ⟨0,Nat.le_refl _,rfl,rfl⟩,fun x hx=> ⟨by show(0:Int)≤x;omega,hx,[],by show Wk p s x [] ((x:Int).toNat);simp;exact .nil⟩,fun i hi=>absurd hi (Nat.not_lt_zero _)⟩
 |n+1,hn=>by
  have h:=uf hp n (by omega)
  have hl:=hp.lnk n (by omega)
  unfold qA
  by_cases hc:Di p s n=true∧(qA p s n).2 (at' p.links n).a≠(qA p s n).2 (at' p.links n).b
  ·rw [if_pos hc]
   obtain⟨hc1,hc2⟩:=hc
   obtain⟨ka,_,ca⟩:=h.ch (at' p.links n).a
   obtain⟨kb,_,cb⟩:=h.ch (at' p.links n).b
   refine⟨fun x=> ?_,fun x hx=> ?_,fun i hi hci=> ?_⟩
   ·obtain⟨k,hk,c⟩:=h.ch x
    obtain⟨k',hk',c'⟩:=c.set hc2 ca.root cb.root
    exact⟨k',by omega,c'⟩
   ·obtain⟨h0,h1,l,hw⟩:=h.cn x hx
    simp only
    by_cases e:(qA p s n).2 x=(qA p s n).2 (at' p.links n).a
    ·rw [if_pos e]
     have ha:=hl.a;have hb:=hl.b
     obtain⟨_,_,la,wa⟩:=h.cn (at' p.links n).a.toNat (by omega)
     obtain⟨b0,b1,lb,wb⟩:=h.cn (at' p.links n).b.toNat (by omega)
     have ea:(((at' p.links n).a.toNat:Nat):Int)=(at' p.links n).a:=by omega
     have eb:(((at' p.links n).b.toNat:Nat):Int)=(at' p.links n).b:=by omega
     rw [ea,←e]at wa
     rw [eb]at wb b0 b1
     obtain⟨m,wm⟩:=wa.symm
     refine⟨b0,b1,_,((hw.trans wm).snoc (by omega) hc1 (.inl ⟨rfl,rfl⟩)).trans wb⟩
    ·rw [if_neg e];exact⟨h0,h1,l,hw⟩
   ·simp only
    by_cases e:i=n
    ·subst e;rw [if_pos rfl]
     by_cases e2:(qA p s i).2 (at' p.links i).b=(qA p s i).2 (at' p.links i).a
     ·rw [if_pos e2]
     ·rw [if_neg e2]
    ·rw [h.ed i (by omega) hci]
  ·rw [if_neg hc]
   refine⟨fun x=> ?_,h.cn,fun i hi hci=> ?_⟩
   ·obtain⟨k,hk,c⟩:=h.ch x;exact⟨k,by omega,c⟩
   ·by_cases e:i=n
    ·subst e
     by_cases e2:(qA p s i).2 (at' p.links i).a=(qA p s i).2 (at' p.links i).b
     ·exact e2
     ·exact absurd ⟨hci,e2⟩ hc
    ·exact h.ed i (by omega) hci
def aX (p:aC) (s:State) (x:Nat):Int:=(qA p s p.links.length).2 x
theorem Bp (hp:VP p) {u v:Nat} (hu:(u:Int)<p.buses) (hv:(v:Int)<p.buses):aX p s u=aX p s v↔ ∃l,Wk p s u l v:=by
 have h:=uf (s:=s) hp p.links.length (Nat.le_refl _)
 constructor
 ·intro e
  obtain⟨_,_,l,w⟩:=h.cn u hu
  obtain⟨_,_,m,w'⟩:=h.cn v hv
  obtain⟨m',w''⟩:=w'.symm
  have:(qA p s p.links.length).2 u=(qA p s p.links.length).2 v:=e
  rw [this]at w
  exact⟨_,w.trans w''⟩
 ·rintro ⟨l,w⟩
  clear hv
  induction w with
  |nil=>rfl
  |snoc w hi hc he ih=>
   rename_i i
   rw [ih]
   have hl:=hp.lnk i hi
   have ha:=hl.a;have hb:=hl.b
   have ed:=h.ed i hi hc
   unfold aX
   rcases he with⟨e1,e2⟩|⟨e1,e2⟩
   ·rw [←e1,←e2,Int.toNat_of_nonneg (by omega),Int.toNat_of_nonneg (by omega),ed]
   ·rw [←e1,←e2,Int.toNat_of_nonneg (by omega),Int.toNat_of_nonneg (by omega),ed]
theorem DW (hp:VP p) (x:Int):bR ⟨(qA p s p.links.length).1⟩ x=some ((qA p s p.links.length).2 x):=by
 obtain⟨k,hk,c⟩:=(uf (s:=s) hp p.links.length (Nat.le_refl _)).ch x
 have:=hp.ll
 exact of_eq c (by omega)
theorem join_eq (hp:VP p) {n:Nat} (hn:n<p.links.length) (hc:Di p s n=true):iV ⟨(qA p s n).1⟩ (at' p.links n).a (at' p.links n).b=some (qA p s (n+1)).1:=by
 have h:=uf (s:=s) hp n (by omega)
 have:=hp.ll
 obtain⟨ka,_,ca⟩:=h.ch (at' p.links n).a
 obtain⟨kb,_,cb⟩:=h.ch (at' p.links n).b
 unfold iV
 rw [of_eq ca (by omega),of_eq cb (by omega)]
 simp only [Option.bind_some]
 rw [qA]
 by_cases e:(qA p s n).2 (at' p.links n).a=(qA p s n).2 (at' p.links n).b
 ·simp [e]
 ·simp [e,hc]
end
theorem jk {α:Type} [Inhabited α] {l m:List α} {j:Nat} (h:j<l.length):at' (l++m) j=at' l j:=by
 rw [gQ (by rw [List.length_append];omega),gQ h,List.getElem_append_left]
theorem kF {α:Type} [Inhabited α] (l:List α) (x:α):at' (l++[x]) l.length=x:=by
 rw [gQ (by simp)];simp
section
variable {p:aC} {s:State} (hp:VP p) (hs:VS p s)
include hp hs
theorem N7 {i:Nat} (hi:i<p.links.length):di p.links s.closed s.badLink s.badBus ((qA p s i).1,(i:Int))=some (.next ((qA p s (i+1)).1,((i+1:Nat):Int))):=by
 have hl:=hp.lnk i hi
 have ha:=hl.a;have hb:=hl.b;have h1:=hs.closed;have h2:=hs.badLink;have h3:=hs.badBus;have hll:=hp.ll
 have hd:decide ((i:Int)<(p.links.length:Int))=true:=decide_eq_true (by omega)
 have hcb:(bif (bif (bif (at' s.closed i)then(!(at' s.badLink i))else false)then(!(at' s.badBus (((at' p.links i).a).toNat)))else false)then(!(at' s.badBus (((at' p.links i).b).toNat)))else false)=Di p s i:=by
  unfold Di
  cases at' s.closed i<;>cases at' s.badLink i<;>cases at' s.badBus (at' p.links i).a.toNat<;>cases at' s.badBus (at' p.links i).b.toNat<;>rfl
 unfold di
 simp only [Int.toNat_natCast]
 rw [hd,cond_true,aA (by omega),hcb]
 cases hc:Di p s i with
 |true=>
  rw [cond_true]
  unfold kM
  rw [join_eq hp hi hc]
  simp only [Option.bind_some]
  rw [aA ⟨by omega,fun _=>by omega,fun _=>by omega,fun _=>by omega⟩,wr (by omega)]
  rfl
 |false=>
  rw [cond_false,aA ⟨by omega,fun _=>by omega,fun _=>by omega,fun _=>by omega⟩,wr (by omega)]
  have:qA p s (i+1)=qA p s i:=by rw [qA];simp [hc]
  rw [this];rfl
theorem zC:kJ p.buses p.sources p.links p.racks s.closed s.locked s.badLink s.on_ s.badSource s.earthed s.badBus ⟨[]⟩=some ⟨(qA p s p.links.length).1⟩:=by
 have hll:=hp.ll
 have key:aD (di p.links s.closed s.badLink s.badBus) FUEL ((qA p s 0).1,((0:Nat):Int))=some (.brk (qA p s p.links.length).1):=by
  refine bO (fun i=>((qA p s i).1,(i:Int))) p.links.length _ (fuel_lt (by omega)) (fun i hi=>N7 hp hs hi) ?_
  unfold di
  simp
 show(aD (di p.links s.closed s.badLink s.badBus) FUEL ((qA p s 0).1,((0:Nat):Int))).bind _=_
 rw [key];rfl
omit hs
structure II (p:aC) (s:State) (t n:Nat) (out:List aH) (m:List (Int × Int)):Prop where
 ix: ∀h i,aS bM h m=some i→0≤i∧i<(out.length:Int)
 inj: ∀h h' i,aS bM h m=some i→aS bM h' m=some i→h=h'
 cov: ∀b:Nat,b<t→at' s.badBus b=false→ ∃j:Nat,aS bM (aX p s b) m=some (j:Int)∧(b:Int)∈(at' out j).buses
 mem: ∀j,j<out.length→ ∀x∈(at' out j).buses,∃b:Nat,x=b∧b<t∧at' s.badBus b=false∧aS bM (aX p s b) m=some (j:Int)
 src: ∀j,j<out.length→(at' out j).sources=[]
 len:out.length≤n
 bl: ∀j,j<out.length→(at' out j).buses.length≤t
omit hp
theorem II.fresh {t n:Nat} {out:List aH} {m:List (Int × Int)} {h0:Int} (g:II p s t n out m) (hn:aS bM h0 m=none):II p s t (n+1) (out++[⟨[],[]⟩]) (dQ bM h0 (out.length:Int) m):=by
 have old: ∀h i,h≠h0→aS bM h (dQ bM h0 (out.length:Int) m)=some i→aS bM h m=some i:=fun h i e q=>by rwa [gG e]at q
 refine⟨fun h i q=> ?_,fun h h' i q q'=> ?_,fun b hb hbad=> ?_,fun j hj x hx=> ?_,fun j hj=> ?_, ?_,fun j hj=> ?_⟩
 ·rw [List.length_append]
  by_cases e:h=h0
  ·subst e;rw [fG]at q;cases q;simp;omega
  ·have:=g.ix h i (old h i e q);simp;omega
 ·by_cases e:h=h0
  ·subst e;rw [fG]at q;cases q
   by_cases e':h'=h
   ·exact e'.symm
   ·have:=g.ix h' _ (old h' _ e' q');omega
  ·by_cases e':h'=h0
   ·subst e';rw [fG]at q';cases q'
    have:=g.ix h _ (old h _ e q);omega
   ·exact g.inj h h' i (old h i e q) (old h' i e' q')
 ·obtain⟨j,q,hx⟩:=g.cov b hb hbad
  have e:aX p s b≠h0:=fun e=>by rw [e,hn]at q;cases q
  have:=g.ix _ _ q
  exact⟨j,by rw [gG e];exact q,by rw [jk (by omega)];exact hx⟩
 ·rw [List.length_append]at hj
  by_cases e:j<out.length
  ·rw [jk e]at hx
   obtain⟨b,h1,h2,h3,q⟩:=g.mem j e x hx
   have e:aX p s b≠h0:=fun e=>by rw [e,hn]at q;cases q
   exact⟨b,h1,h2,h3,by rw [gG e];exact q⟩
  ·have:j=out.length:=by simp at hj;omega
   subst this
   rw [kF]at hx;simp at hx
 ·rw [List.length_append]at hj
  by_cases e:j<out.length
  ·rw [jk e];exact g.src j e
  ·have:j=out.length:=by simp at hj;omega
   subst this;rw [kF]
 ·rw [List.length_append];have:=g.len;simp;omega
 ·rw [List.length_append]at hj
  by_cases e:j<out.length
  ·rw [jk e];exact g.bl j e
  ·have:j=out.length:=by simp at hj;omega
   subst this;rw [kF];simp
theorem II.add {t n:Nat} {out:List aH} {m:List (Int × Int)} (g:II p s t n out m) (hbad:at' s.badBus t=false) {j:Nat} (hj:aS bM (aX p s t) m=some (j:Int)):
  II p s (t+1) n (out.set j ⟨(at' out j).buses++[(t:Int)],(at' out j).sources⟩) m:=by
 have hjl:=(g.ix _ _ hj).2
 refine⟨fun h i q=>by rw [List.length_set];exact g.ix h i q,g.inj,fun b hb hbb=> ?_,fun i hi x hx=> ?_,fun i hi=> ?_,by rw [List.length_set];exact g.len,fun i hi=> ?_⟩
 ·by_cases e:b=t
  ·subst e
   exact⟨j,hj,by rw [dw (by omega)];simp⟩
  ·obtain⟨i,q,hx⟩:=g.cov b (by omega) hbb
   refine⟨i,q, ?_⟩
   by_cases e2:j=i
   ·subst e2;rw [dw (by omega)];simp [hx]
   ·rw [bT e2];exact hx
 ·rw [List.length_set]at hi
  by_cases e2:j=i
  ·subst e2
   rw [dw (by omega)]at hx
   rcases List.mem_append.mp hx with hx|hx
   ·obtain⟨b,h1,h2,h3,q⟩:=g.mem j hi x hx
    exact⟨b,h1,by omega,h3,q⟩
   ·simp at hx
    exact⟨t,hx,by omega,hbad,hj⟩
  ·rw [bT e2]at hx
   obtain⟨b,h1,h2,h3,q⟩:=g.mem i hi x hx
   exact⟨b,h1,by omega,h3,q⟩
 ·rw [List.length_set]at hi
  by_cases e2:j=i
  ·subst e2;rw [dw (by omega)];exact g.src j hi
  ·rw [bT e2];exact g.src i hi
 ·rw [List.length_set]at hi
  have:=g.bl i hi
  by_cases e2:j=i
  ·subst e2;rw [dw (by omega)];simp;omega
  ·rw [bT e2];omega
include hp hs
theorem P9 {t:Nat} (ht:(t:Int)<p.buses) {out:List aH} {m:List (Int × Int)} (g:II p s t t out m):
  ∃out' m',bD p s ⟨(qA p s p.links.length).1⟩ (out,m,(t:Int))=some (.next (out',m',((t+1:Nat):Int)))∧II p s (t+1) (t+1) out' m':=by
 have h3:=hs.badBus;have hb:=hp.b
 have hd:decide ((t:Int)<p.buses)=true:=decide_eq_true ht
 have hlen:=g.len
 unfold bD
 simp only [Int.toNat_natCast]
 rw [hd,cond_true,aA (by omega)]
 cases hbad:at' s.badBus t with
 |true=>
  refine⟨out,m,by rw [cond_true,wr (by omega)];rfl,g.ix,g.inj,fun b hb' hbb=> ?_,fun j hj x hx=> ?_,g.src,by omega,fun j hj=> ?_⟩
  ·have:b≠t:=fun e=>by rw [e,hbad]at hbb;cases hbb
   exact g.cov b (by omega) hbb
  ·obtain⟨b,h1,h2,h3,q⟩:=g.mem j hj x hx
   exact⟨b,h1,by omega,h3,q⟩
  ·have:=g.bl j hj;omega
 |false=>
  rw [cond_false,DW hp,Option.bind_some]
  have eh:(qA p s p.links.length).2 (t:Int)=aX p s t:=rfl
  rw [eh]
  cases hq:aS bM (aX p s t) m with
  |some i=>
   obtain⟨i0,i1⟩:=g.ix _ _ hq
   obtain⟨j,rfl⟩: ∃j:Nat,i=(j:Int):=⟨i.toNat,by omega⟩
   have hbl:=g.bl j (by omega)
   refine⟨_,_, ?_,⟨(g.add hbad hq).ix,g.inj,(g.add hbad hq).cov,(g.add hbad hq).mem,(g.add hbad hq).src,by have:=(g.add hbad hq).len;omega,(g.add hbad hq).bl⟩⟩
   simp only [Option.isSome_some,Bool.not_true,cond_false,Option.getD_some,Int.toNat_natCast]
   rw [aA ⟨by omega,by simp;omega,by simp;omega⟩,wr (by omega)]
   rfl
  |none=>
   have g':=g.fresh hq
   have hj:aS bM (aX p s t) (dQ bM (aX p s t) (out.length:Int) m)=some (out.length:Int):=fG _ _ _
   have g2:=g'.add hbad hj
   refine⟨_,_, ?_,g2⟩
   simp only [Option.isSome_none,Bool.not_false,cond_true,hj,Option.getD_some,Int.toNat_natCast,kF]
   rw [aA ⟨by simp;omega,by simp;omega⟩,aA ⟨by simp;omega,by simp⟩,wr (by omega)]
   rfl
theorem U0: ∀(d t:Nat) (out:List aH) (m:List (Int × Int)),((t+d:Nat):Int)=p.buses→II p s t t out m→
  ∃out' m',aD (bD p s ⟨(qA p s p.links.length).1⟩) (d+1) (out,m,(t:Int))=some (.brk (out',m'))∧II p s p.buses.toNat p.buses.toNat out' m':=by
 intro d
 induction d with
 |zero=>
  intro t out m ht g
  refine⟨out,m, ?_,by
   have:p.buses.toNat=t:=by omega
   rw [this];exact g⟩
  rw [bE]
  have hd:decide ((t:Int)<p.buses)=false:=decide_eq_false (by omega)
  unfold bD
  simp only
  rw [hd];rfl
 |succ d ih=>
  intro t out m ht g
  obtain⟨out1,m1,h1,g1⟩:=P9 hp hs (by omega) g
  obtain⟨out2,m2,h2,g2⟩:=ih (t+1) out1 m1 (by omega) g1
  exact⟨out2,m2,by rw [bE,h1];exact h2,g2⟩
structure JJ (p:aC) (s:State) (m:List (Int × Int)) (o:List aH) (k:Nat) (out:List aH):Prop where
 len:out.length=o.length
 bus: ∀j,j<out.length→(at' out j).buses=(at' o j).buses
 src: ∀j,j<out.length→((at' out j).sources≠[]↔ ∃i,i<k∧o7 p s i=true∧aS bM (aX p s (at' p.sources i).bus.toNat) m=some (j:Int))
 sl: ∀j,j<out.length→(at' out j).sources.length≤k
theorem Qn {o:List aH} {m:List (Int × Int)} (g:II p s p.buses.toNat p.buses.toNat o m) {k:Nat} (hk:k<p.sources.length) {out:List aH} (q:JJ p s m o k out):
  ∃out',bB p s ⟨(qA p s p.links.length).1⟩ m (out,(k:Int))=some (.next (out',((k+1:Nat):Int)))∧JJ p s m o (k+1) out':=by
 have hl:=(hp.src k hk).bus;have h1:=hs.on;have h2:=hs.badSource;have h3:=hs.badBus;have h4:=hp.sl
 have hd:decide ((k:Int)<(p.sources.length:Int))=true:=decide_eq_true (by omega)
 have hcb:(bif (bif (at' s.on_ k)then(!(at' s.badSource k))else false)then(!(at' s.badBus (((at' p.sources k).bus).toNat)))else false)=o7 p s k:=by
  unfold o7
  cases at' s.on_ k<;>cases at' s.badSource k<;>cases at' s.badBus (at' p.sources k).bus.toNat<;>rfl
 unfold bB
 simp only [Int.toNat_natCast]
 rw [hd,cond_true,aA (by omega),aA ⟨by omega,fun _=>by omega,fun _=>by omega⟩,hcb]
 cases hf:o7 p s k with
 |false=>
  refine⟨out,by rw [cond_false,wr (by omega)];rfl,q.len,q.bus,fun j hj=> ?_,fun j hj=>by have:=q.sl j hj;omega⟩
  rw [q.src j hj]
  constructor
  ·rintro ⟨i,h1,h2,h3⟩;exact⟨i,by omega,h2,h3⟩
  ·rintro ⟨i,h1,h2,h3⟩
   have:i≠k:=fun e=>by rw [e,hf]at h2;cases h2
   exact⟨i,by omega,h2,h3⟩
 |true=>
  have hbad:at' s.badBus (at' p.sources k).bus.toNat=false:=by
   unfold o7 at hf
   revert hf
   cases at' s.badBus (at' p.sources k).bus.toNat<;>simp
  obtain⟨j,hj,_⟩:=g.cov (at' p.sources k).bus.toNat (by omega) hbad
  have hjl:=(g.ix _ _ hj).2
  have hlen:=q.len
  have hsl:=q.sl j (by omega)
  have eh:(qA p s p.links.length).2 (at' p.sources k).bus=aX p s (at' p.sources k).bus.toNat:=by unfold aX;rw [Int.toNat_of_nonneg (by omega)]
  rw [cond_true,DW hp,Option.bind_some,eh,hj]
  simp only [Option.getD_some,Int.toNat_natCast]
  rw [aA ⟨by omega,by simp;omega,by simp;omega⟩,wr (by omega)]
  refine⟨_,rfl,by rw [List.length_set];exact q.len,fun i hi=> ?_,fun i hi=> ?_,fun i hi=> ?_⟩
  ·rw [List.length_set]at hi
   by_cases e:j=i
   ·subst e;rw [dw (by omega)];exact q.bus j hi
   ·rw [bT e];exact q.bus i hi
  ·rw [List.length_set]at hi
   by_cases e:j=i
   ·subst e;rw [dw (by omega)]
    simp only [ne_eq,List.append_eq_nil_iff,List.cons_ne_nil,and_false,not_false_eq_true,true_iff]
    exact⟨k,by omega,hf,hj⟩
   ·rw [bT e,q.src i hi]
    constructor
    ·rintro ⟨i',h1,h2,h3⟩;exact⟨i',by omega,h2,h3⟩
    ·rintro ⟨i',h1,h2,h3⟩
     have:i'≠k:=fun e'=>by
      rw [e',hj]at h3
      have:=Option.some.inj h3
      omega
     exact⟨i',by omega,h2,h3⟩
  ·rw [List.length_set]at hi
   have:=q.sl i hi
   by_cases e:j=i
   ·subst e;rw [dw (by omega)];simp;omega
   ·rw [bT e];omega
theorem UL {o:List aH} {m:List (Int × Int)} (g:II p s p.buses.toNat p.buses.toNat o m): ∀(d k:Nat) (out:List aH),k+d=p.sources.length→JJ p s m o k out→
  ∃out',aD (bB p s ⟨(qA p s p.links.length).1⟩ m) (d+1) (out,(k:Int))=some (.brk out')∧JJ p s m o p.sources.length out':=by
 intro d
 induction d with
 |zero=>
  intro k out hk q
  refine⟨out, ?_,by
   have:p.sources.length=k:=by omega
   rw [this];exact q⟩
  rw [bE]
  have hd:decide ((k:Int)<(p.sources.length:Int))=false:=decide_eq_false (by omega)
  unfold bB
  simp only
  rw [hd];rfl
 |succ d ih=>
  intro k out hk q
  obtain⟨out1,h1,q1⟩:=Qn hp hs g (by omega) q
  obtain⟨out2,h2,q2⟩:=ih (k+1) out1 (by omega) q1
  exact⟨out2,by rw [bE,h1];exact h2,q2⟩
theorem Ma: ∃out o m,fT p s=some out∧II p s p.buses.toNat p.buses.toNat o m∧JJ p s m o p.sources.length out:=by
 have hb:=hp.b;have h4:=hp.sl
 obtain⟨o,m,h1,g⟩:=U0 hp hs p.buses.toNat 0 [] [] (by omega) ⟨fun h i q=>by simp [aS]at q,fun h h' i q=>by simp [aS]at q,fun b hb=>absurd hb (Nat.not_lt_zero _),fun j hj=>by simp at hj,fun j hj=>by simp at hj,Nat.le_refl _,fun j hj=>by simp at hj⟩
 obtain⟨out,h2,q⟩:=UL hp hs g p.sources.length 0 o (by omega) ⟨rfl,fun _ _=>rfl,fun j hj=>by rw [g.src j hj];simp,fun j hj=>by rw [g.src j hj];simp⟩
 refine⟨out,o,m, ?_,g,q⟩
 unfold fT
 simp only [jv,Option.bind_some]
 rw [zC hp hs,Option.bind_some]
 have e1:aD (bD p s ⟨(qA p s p.links.length).1⟩) FUEL (([]:List aH),([]:List (Int × Int)),0)=some (.brk (o,m)):=l8 h1 (by unfold FUEL;omega)
 have e2:aD (bB p s ⟨(qA p s p.links.length).1⟩ m) FUEL (o,0)=some (.brk out):=l8 h2 (by unfold FUEL;omega)
 rw [e1]
 simp only [Option.bind_some]
 rw [e2]
 rfl
end
def mh (v:Bool) (o:List Bool) (l:List Int):List Bool:=l.foldl (fun o x=>o.set x.toNat v) o
theorem tZ (v:Bool): ∀(l:List Int) (o:List Bool),(mh v o l).length=o.length
 |[],_=>rfl
 |x::l,o=>by
  show(mh v (o.set x.toNat v) l).length=_
  rw [tZ v l,List.length_set]
theorem KM (v:Bool) (o:List Bool) (l:List Int) (x:Int):mh v o (l++[x])=(mh v o l).set x.toNat v:=by simp [mh]
theorem Gc (v:Bool): ∀(l:List Int) (o:List Bool) (j:Nat),(∀x∈l,0≤x)→j<o.length→at' (mh v o l) j=if(j:Int)∈l then v else at' o j
 |[],o,j,_,_=>by simp [mh]
 |x::l,o,j,h,hj=>by
  show at' (mh v (o.set x.toNat v) l) j=_
  rw [Gc v l _ j (fun y hy=>h y (List.mem_cons_of_mem _ hy)) (by rw [List.length_set];exact hj)]
  have hx:=h x List.mem_cons_self
  by_cases e:(j:Int)∈l
  ·rw [if_pos e,if_pos (List.mem_cons_of_mem _ e)]
  ·rw [if_neg e]
   by_cases e2:x.toNat=j
   ·subst e2
    rw [dw hj,if_pos (by rw [Int.toNat_of_nonneg hx];exact List.mem_cons_self)]
   ·rw [bT e2,if_neg]
    intro hm
    rcases List.mem_cons.mp hm with h1|h1
    ·omega
    ·exact e h1
def EM (n:Nat) (l:List aH):List Bool:=l.foldl (fun o x=>mh (decide (0<(x.sources.length:Int))) o x.buses) (List.replicate n false)
theorem G9 (n:Nat) (l:List aH) (x:aH):EM n (l++[x])=mh (decide (0<(x.sources.length:Int))) (EM n l) x.buses:=by simp [EM]
theorem xO (n:Nat) (l:List aH):(EM n l).length=n:=by
 unfold EM
 suffices∀(l:List aH) (o:List Bool),(l.foldl (fun o x=>mh (decide (0<(x.sources.length:Int))) o x.buses) o).length=o.length by rw [this];simp
 intro l
 induction l with
 |nil=>intro o;rfl
 |cons x l ih=>intro o;rw [List.foldl_cons,ih,tZ]
def rQ (p:aC) (s:State) (b:Nat):Prop:=at' s.badBus b=false∧ ∃k,k<p.sources.length∧o7 p s k=true∧ ∃l,Wk p s (at' p.sources k).bus.toNat l b
section
variable {p:aC} {s:State} (hp:VP p) (hs:VS p s)
include hp hs
theorem Sl {out:List aH} {j:Nat} (hj:j<out.length) (hx: ∀x∈(at' out j).buses,0≤x∧x<p.buses) (hl:(at' out j).buses.length≤1000) {o:List Bool} (ho:(o.length:Int)=p.buses):
  aD (jI out (j:Int)) FUEL (o,0)=some (.brk (mh (decide (0<((at' out j).sources.length:Int))) o (at' out j).buses)):=by
 have key:aD (jI out (j:Int)) FUEL (mh (decide (0<((at' out j).sources.length:Int))) o ((at' out j).buses.take 0),((0:Nat):Int))=some (.brk (mh (decide (0<((at' out j).sources.length:Int))) o (at' out j).buses)):=by
  refine bO (fun i=>(mh (decide (0<((at' out j).sources.length:Int))) o ((at' out j).buses.take i),(i:Int))) (at' out j).buses.length _ (fuel_lt (by omega)) (fun i hi=> ?_) ?_
  ·have hd:decide ((i:Int)<((at' out j).buses.length:Int))=true:=decide_eq_true (by omega)
   have hm:=hx _ (at_mem hi)
   have hlen:=tZ (decide (0<((at' out j).sources.length:Int))) ((at' out j).buses.take i) o
   unfold jI
   simp only [Int.toNat_natCast]
   rw [hd,cond_true,aA (by omega),aA (by omega),wr (by omega),vT hi,KM]
   rfl
  ·have hd:decide (((at' out j).buses.length:Int)<((at' out j).buses.length:Int))=false:=decide_eq_false (by omega)
   unfold jI
   simp only [Int.toNat_natCast]
   rw [hd,cond_false,List.take_length]
 exact key
theorem DY: ∃L,dJ p s=some (L,0)∧(L.length:Int)=p.buses∧ ∀b:Nat,(b:Int)<p.buses→(at' L b=true↔rQ p s b):=by
 have hb:=hp.b;have h4:=hp.sl
 obtain⟨out,o,m,e,g,q⟩:=Ma hp hs
 have hlen:=q.len
 have hgl:=g.len
 have hbus: ∀j,j<out.length→ ∀x∈(at' out j).buses,∃b:Nat,x=b∧(b:Int)<p.buses∧at' s.badBus b=false∧aS bM (aX p s b) m=some (j:Int):=by
  intro j hj x hx
  rw [q.bus j hj]at hx
  obtain⟨b,h1,h2,h3,h5⟩:=g.mem j (by omega) x hx
  exact⟨b,h1,by omega,h3,h5⟩
 have hx: ∀j,j<out.length→ ∀x∈(at' out j).buses,0≤x∧x<p.buses:=by
  intro j hj x hx
  obtain⟨b,h1,h2,_⟩:=hbus j hj x hx
  omega
 have hl: ∀j,j<out.length→(at' out j).buses.length≤1000:=by
  intro j hj;rw [q.bus j hj];have:=g.bl j (by omega);omega
 have hL:aD (jJ out) FUEL (EM p.buses.toNat (out.take 0),((0:Nat):Int))=some (.brk (EM p.buses.toNat out)):=by
  refine bO (fun i=>(EM p.buses.toNat (out.take i),(i:Int))) out.length _ (fuel_lt (by omega)) (fun i hi=> ?_) ?_
  ·have hd:decide ((i:Int)<(out.length:Int))=true:=decide_eq_true (by omega)
   have hlo:=xO p.buses.toNat (out.take i)
   unfold jJ
   simp only
   rw [hd,cond_true,aA (by omega),Sl hp hs hi (hx i hi) (hl i hi) (by omega)]
   simp only [Option.bind_some]
   rw [wr (by omega),vT hi,G9]
   rfl
  ·have hd:decide ((out.length:Int)<(out.length:Int))=false:=decide_eq_false (by omega)
   unfold jJ
   simp only
   rw [hd,cond_false,List.take_length]
 have hat: ∀n,n≤out.length→ ∀b:Nat,(b:Int)<p.buses→(at' (EM p.buses.toNat (out.take n)) b=true↔ ∃j,j<n∧(b:Int)∈(at' out j).buses∧(at' out j).sources≠[]):=by
  intro n
  induction n with
  |zero=>
   intro _ b hb'
   rw [List.take_zero]
   show at' (List.replicate p.buses.toNat false) b=true↔_
   rw [tH (by omega)]
   simp
  |succ n ih=>
   intro hn b hb'
   have hln:=xO p.buses.toNat (out.take n)
   rw [vT (by omega),G9,Gc _ _ _ _ (fun x h=>(hx n (by omega) x h).1) (by omega)]
   by_cases hm:(b:Int)∈(at' out n).buses
   ·rw [if_pos hm]
    have huniq: ∀j,j<out.length→(b:Int)∈(at' out j).buses→j=n:=by
     intro j hj hmj
     obtain⟨b1,e1,_,_,f1⟩:=hbus n (by omega) _ hm
     obtain⟨b2,e2,_,_,f2⟩:=hbus j hj _ hmj
     have:b1=b2:=by omega
     subst this
     rw [f1]at f2
     have:=Option.some.inj f2
     omega
    constructor
    ·intro hd
     refine⟨n,by omega,hm,fun hn=> ?_⟩
     rw [hn]at hd;simp at hd
    ·rintro ⟨j,hj,hmj,hsj⟩
     have:=huniq j (by omega) hmj
     subst this
     have:=List.length_pos_iff.mpr hsj
     exact decide_eq_true (by omega)
   ·rw [if_neg hm,ih (by omega) b hb']
    constructor
    ·rintro ⟨j,hj,h⟩;exact⟨j,by omega,h⟩
    ·rintro ⟨j,hj,h⟩
     have:j≠n:=fun e=>by subst e;exact hm h.1
     exact⟨j,by omega,h⟩
 refine⟨EM p.buses.toNat out, ?_,by rw [xO];omega,fun b hb'=> ?_⟩
 ·unfold dJ
  have h0:sZ p s=0:=mJ.mpr ⟨hp,hs⟩
  rw [lI p s hp.small,h0,Option.bind_some]
  simp only [decide_true,Bool.not_true,cond_false]
  rw [aA ⟨by omega,by omega,by omega⟩,e,Option.bind_some]
  have hL':aD (jJ out) FUEL (List.replicate p.buses.toNat false,0)=some (.brk (EM p.buses.toNat out)):=hL
  rw [hL'];rfl
 ·have:=hat out.length (Nat.le_refl _) b hb'
  rw [List.take_length]at this
  rw [this]
  constructor
  ·rintro ⟨j,hj,hm,hsj⟩
   obtain⟨b1,e1,h1,hbad,f1⟩:=hbus j hj _ hm
   have:b1=b:=by omega
   subst this
   obtain⟨k,hk,hf,f2⟩:=(q.src j hj).mp hsj
   have hk2:=(hp.src k hk).bus
   have:=g.inj _ _ _ f1 f2
   obtain⟨l,w⟩:=(Bp hp (by omega) hb').mp this.symm
   exact⟨hbad,k,hk,hf,l,w⟩
  ·rintro ⟨hbad,k,hk,hf,l,w⟩
   have hk2:=(hp.src k hk).bus
   have he:=(Bp (s:=s) hp (u:=(at' p.sources k).bus.toNat) (by omega) hb').mpr ⟨l,w⟩
   obtain⟨j,hj,hm⟩:=g.cov b (by omega) hbad
   have hjl:=(g.ix _ _ hj).2
   refine⟨j,by omega,by rw [q.bus j (by omega)];exact hm, ?_⟩
   rw [q.src j (by omega)]
   exact⟨k,hk,hf,by rw [he];exact hj⟩
omit hp hs
end
def rts (p:aC) (s:State):Nat→List Int
 |0=>[]
 |t+1=>if at' s.badBus t=true∨aX p s t∈rts p s t then rts p s t else rts p s t++[aX p s t]
def Cj (p:aC) (s:State) (t:Nat) (h:Int):List Int:=List.map (fun b:Nat=>(Int.ofNat b)) ((List.range t).filter fun b=> !at' s.badBus b && decide (aX p s b=h))
def tq (p:aC) (s:State) (k:Nat) (h:Int):List Int:=List.map (fun i:Nat=>(Int.ofNat i)) ((List.range k).filter fun i=>o7 p s i && decide (aX p s (at' p.sources i).bus.toNat=h))
def dK (p:aC) (s:State) (t k:Nat):List aH:=(rts p s t).map fun h=> ⟨Cj p s t h,tq p s k h⟩
def I4 (r:List Int):List (Int × Int):=tab r.length fun j=>(at' r j,(j:Int))
theorem yH {p:aC} {s:State} {h:Int}: ∀{t:Nat},h∈rts p s t↔ ∃b,b<t∧at' s.badBus b=false∧aX p s b=h
 |0=>by simp [rts]
 |t+1=>by
  have e:rts p s (t+1)=if at' s.badBus t=true∨aX p s t∈rts p s t then rts p s t else rts p s t++[aX p s t]:=rfl
  rw [e]
  by_cases c:at' s.badBus t=true∨aX p s t∈rts p s t
  ·rw [if_pos c,yH]
   constructor
   ·rintro ⟨b,h1,h2,h3⟩;exact⟨b,by omega,h2,h3⟩
   ·rintro ⟨b,h1,h2,h3⟩
    by_cases e:b=t
    ·subst e
     rcases c with c|c
     ·rw [h2]at c;cases c
     ·rw [h3]at c;exact yH.1 c
    ·exact⟨b,by omega,h2,h3⟩
  ·rw [if_neg c,List.mem_append,List.mem_singleton,yH]
   rw [not_or,Bool.not_eq_true]at c
   constructor
   ·rintro (⟨b,h1,h2,h3⟩|rfl)
    ·exact⟨b,by omega,h2,h3⟩
    ·exact⟨t,by omega,c.1,rfl⟩
   ·rintro ⟨b,h1,h2,h3⟩
    by_cases e:b=t
    ·subst e;exact .inr h3.symm
    ·exact .inl ⟨b,by omega,h2,h3⟩
theorem qG {p:aC} {s:State}: ∀t,(rts p s t).Nodup
 |0=>by simp [rts]
 |t+1=>by
  have e:rts p s (t+1)=if at' s.badBus t=true∨aX p s t∈rts p s t then rts p s t else rts p s t++[aX p s t]:=rfl
  rw [e]
  by_cases c:at' s.badBus t=true∨aX p s t∈rts p s t
  ·rw [if_pos c];exact qG t
  ·rw [if_neg c,List.nodup_append]
   refine⟨qG t,by simp,fun a ha b hb=> ?_⟩
   rw [List.mem_singleton]at hb
   subst hb
   exact fun e=>c (.inr (e ▸ ha))
theorem BQ {p:aC} {s:State}: ∀t,(rts p s t).length≤t
 |0=>by simp [rts]
 |t+1=>by
  have e:rts p s (t+1)=if at' s.badBus t=true∨aX p s t∈rts p s t then rts p s t else rts p s t++[aX p s t]:=rfl
  have:=BQ (p:=p) (s:=s) t
  rw [e];split
  ·omega
  ·rw [List.length_append,List.length_singleton];omega
theorem MF {α:Type} (n:Nat) (f:Nat→α):tab (n+1) f=tab n f++[f n]:=by simp [tab,List.range_succ]
theorem sQ {α:Type} {h:Int}: ∀{l m:List (Int × α)},aS bM h l=none→aS bM h (l++m)=aS bM h m
 |[],_,_=>rfl
 |(k,v)::l,m,hn=>by
  unfold aS at hn
  rw [List.cons_append]
  conv=>lhs;unfold aS
  cases e:bM h k with
  |true=>rw [e]at hn;simp at hn
  |false=>rw [e]at hn;simp only [cond_false]at hn ⊢;exact sQ hn
theorem zw {α:Type} {h:Int} {v:α}: ∀{l m:List (Int × α)},aS bM h l=some v→aS bM h (l++m)=some v
 |[],_,hn=>by simp [aS]at hn
 |(k,w)::l,m,hn=>by
  unfold aS at hn
  rw [List.cons_append]
  conv=>lhs;unfold aS
  cases e:bM h k with
  |true=>rw [e]at hn;simpa using hn
  |false=>rw [e]at hn;simp only [cond_false]at hn ⊢;exact zw hn
theorem EL (r:List Int) (h:Int):I4 (r++[h])=I4 r++[(h,(r.length:Int))]:=by
 unfold I4
 rw [List.length_append,List.length_singleton,MF]
 have e1:(tab r.length fun j=>(at' (r++[h]) j,(j:Int)))=tab r.length fun j=>(at' r j,(j:Int)):=Nu fun j hj=>by rw [jk hj]
 rw [e1,kF]
theorem oQ: ∀{n:Nat} {r:List Int} {h:Int},r.length=n→h ∉ r→aS bM h (I4 r)=none
 |0,r,h,hl,_=>by
  have:r=[]:=List.eq_nil_of_length_eq_zero hl
  subst this;rfl
 |n+1,r,h,hl,hn=>by
  rcases List.eq_nil_or_concat r with rfl|⟨q,x,rfl⟩
  ·simp at hl
  ·rw [List.concat_eq_append]at*
   rw [List.mem_append,List.mem_singleton,not_or]at hn
   rw [EL,sQ (oQ (by simpa using hl) hn.1)]
   simp [aS,Lr hn.2]
theorem D9: ∀{n:Nat} {r:List Int} {j:Nat},r.length=n→r.Nodup→j<r.length→aS bM (at' r j) (I4 r)=some (j:Int)
 |0,r,j,hl,_,hj=>by omega
 |n+1,r,j,hl,hn,hj=>by
  rcases List.eq_nil_or_concat r with rfl|⟨q,x,rfl⟩
  ·simp at hl
  ·rw [List.concat_eq_append]at*
   rw [List.nodup_append]at hn
   rw [List.length_append,List.length_singleton]at hj hl
   rw [EL]
   by_cases e:j=q.length
   ·subst e
    rw [kF,sQ (oQ rfl fun hm=>hn.2.2 _ hm _ (List.mem_singleton_self x) rfl)]
    simp [aS,Ec]
   ·rw [jk (by omega),zw (D9 (show q.length=n by omega) hn.1 (by omega))]
theorem Ph {r:List Int} {h:Int} (hn:h ∉ r):dQ bM h (r.length:Int) (I4 r)=I4 (r++[h]):=by
 rw [EL]
 have gen: ∀{l:List (Int × Int)} {v:Int},aS bM h l=none→dQ bM h v l=l++[(h,v)]:=by
  intro l v
  induction l with
  |nil=>intro _;rfl
  |cons a l ih=>
   obtain⟨k',v'⟩:=a
   intro hg
   unfold aS at hg
   unfold dQ
   cases e:bM h k' with
   |true=>rw [e]at hg;simp at hg
   |false=>rw [e]at hg;simp only [cond_false]at hg ⊢;rw [ih hg];rfl
 exact gen (oQ rfl hn)
theorem BX {p:aC} {s:State} (t:Nat) (h:Int):Cj p s (t+1) h=Cj p s t h++(if(!at' s.badBus t && decide (aX p s t=h))=true then [(t:Int)]else []):=by
 unfold Cj
 rw [List.range_succ,List.filter_append,List.map_append]
 congr 1
 by_cases c:(!at' s.badBus t && decide (aX p s t=h))=true
 ·simp only [List.filter_cons,List.filter_nil,c,if_true];rfl
 ·simp only [List.filter_cons,List.filter_nil,c,if_false];rfl
theorem Hg {p:aC} {s:State} (k:Nat) (h:Int):tq p s (k+1) h=tq p s k h++(if(o7 p s k && decide (aX p s (at' p.sources k).bus.toNat=h))=true then [(k:Int)]else []):=by
 unfold tq
 rw [List.range_succ,List.filter_append,List.map_append]
 congr 1
 by_cases c:(o7 p s k && decide (aX p s (at' p.sources k).bus.toNat=h))=true
 ·simp only [List.filter_cons,List.filter_nil,c,if_true];rfl
 ·simp only [List.filter_cons,List.filter_nil,c,if_false];rfl
theorem QB {p:aC} {s:State} (t:Nat) (h:Int):(Cj p s t h).length≤t:=by
 unfold Cj;rw [List.length_map];exact Nat.le_trans (List.length_filter_le _ _) (by simp)
theorem Eh {p:aC} {s:State} (t:Nat) (h:Int):(tq p s t h).length≤t:=by
 unfold tq;rw [List.length_map];exact Nat.le_trans (List.length_filter_le _ _) (by simp)
theorem uy {α β:Type} [Inhabited α] [Inhabited β] {f:α→β} {l:List α} {j:Nat} (h:j<l.length):at' (l.map f) j=f (at' l j):=by
 rw [gQ (by rw [List.length_map];exact h),gQ h,List.getElem_map]
section
variable {p:aC} {s:State} (hp:VP p) (hs:VS p s)
include hp hs
theorem Oz {t:Nat} (ht:(t:Int)<p.buses):bD p s ⟨(qA p s p.links.length).1⟩ (dK p s t 0,I4 (rts p s t),(t:Int))=some (.next (dK p s (t+1) 0,I4 (rts p s (t+1)),((t+1:Nat):Int))):=by
 have h3:=hs.badBus;have hb:=hp.b
 have hrl:=BQ (p:=p) (s:=s) t
 have er:rts p s (t+1)=if at' s.badBus t=true∨aX p s t∈rts p s t then rts p s t else rts p s t++[aX p s t]:=rfl
 have ss0: ∀h,tq p s 0 h=[]:=fun h=>rfl
 have hil:(dK p s t 0).length=(rts p s t).length:=by unfold dK;rw [List.length_map]
 unfold bD
 dsimp only
 rw [Int.toNat_natCast,decide_eq_true ht,cond_true,aA (by omega),wr (by omega)]
 cases hbad:at' s.badBus t with
 |true=>
  rw [cond_true,er,if_pos (.inl hbad)]
  have:dK p s (t+1) 0=dK p s t 0:=by
   unfold dK
   rw [er,if_pos (.inl hbad)]
   refine List.map_congr_left fun h _=> ?_
   rw [BX,hbad,if_neg (by simp),List.append_nil]
  rw [this];rfl
 |false=>
  rw [cond_false,DW hp,Option.bind_some]
  have eh:(qA p s p.links.length).2 (t:Int)=aX p s t:=rfl
  rw [eh]
  by_cases hm:aX p s t∈rts p s t
  ·obtain⟨j,hj,e⟩:=iY hm
   have hg:=D9 rfl (qG t) hj
   rw [e]at hg
   rw [hg,er,if_pos (.inr hm)]
   have hbl:=QB (p:=p) (s:=s) t (aX p s t)
   have hat:at' (dK p s t 0) j=⟨Cj p s t (aX p s t),[]⟩:=by unfold dK;rw [uy hj,e,ss0]
   rw [Option.isSome_some,Bool.not_true,cond_false,Option.getD_some,Int.toNat_natCast,hat,aA ⟨by omega,by simp;omega,by simp;omega⟩]
   refine congrArg (fun l=>some (aU.next (l,_,_))) ?_
   refine K6 (by rw [List.length_set];unfold dK;rw [List.length_map,List.length_map,er,if_pos (.inr hm)]) fun i hi=> ?_
   rw [List.length_set,hil]at hi
   have h2:at' (dK p s (t+1) 0) i=⟨Cj p s (t+1) (at' (rts p s t) i),[]⟩:=by
    have h3:rts p s (t+1)=rts p s t:=by rw [er,if_pos (.inr hm)]
    unfold dK;rw [h3,uy hi,ss0]
   rw [h2,BX,hbad]
   by_cases e2:j=i
   ·subst e2
    rw [dw (by omega),e]
    simp
   ·rw [bT e2]
    have:aX p s t≠at' (rts p s t) i:=fun q=>by
     have hn:=qG (p:=p) (s:=s) t
     rw [gQ hi,←e,gQ hj]at q
     exact e2 ((List.getElem_inj hn).1 q)
    rw [decide_eq_false this]
    unfold dK;rw [uy hi,ss0];simp
  ·have hg:=oQ (r:=rts p s t) rfl hm
   have er2:rts p s (t+1)=rts p s t++[aX p s t]:=by rw [er,if_neg (fun q=>q.elim (fun q=>by rw [hbad]at q;cases q) hm)]
   have hg2:aS bM (aX p s t) (dQ bM (aX p s t) ((dK p s t 0).length:Int) (I4 (rts p s t)))=some ((dK p s t 0).length:Int):=fG _ _ _
   have hms:dQ bM (aX p s t) ((dK p s t 0).length:Int) (I4 (rts p s t))=I4 (rts p s (t+1)):=by rw [hil,er2];exact Ph hm
   rw [hg]
   simp only [Option.isSome_none,Bool.not_false,cond_true,hg2,Option.getD_some,Int.toNat_natCast,kF]
   rw [aA ⟨by simp;omega,by simp;omega⟩,aA ⟨by simp;omega,by simp⟩,hms]
   refine congrArg (fun l=>some (aU.next (l,_,_))) ?_
   have hbs:Cj p s t (aX p s t)=[]:=by
    unfold Cj
    rw [List.map_eq_nil_iff,List.filter_eq_nil_iff]
    intro b hb2 hc
    simp only [Bool.and_eq_true,Bool.not_eq_true',decide_eq_true_eq]at hc
    exact hm (yH.2 ⟨b,List.mem_range.1 hb2,hc.1,hc.2⟩)
   refine K6 (by rw [List.length_set,List.length_append,List.length_singleton,hil];unfold dK;rw [List.length_map,er2,List.length_append,List.length_singleton]) fun i hi=> ?_
   rw [List.length_set,List.length_append,List.length_singleton,hil]at hi
   have h2:at' (dK p s (t+1) 0) i=⟨Cj p s (t+1) (at' (rts p s (t+1)) i),[]⟩:=by
    unfold dK;rw [uy (by rw [er2,List.length_append,List.length_singleton];exact hi),ss0]
   rw [h2,BX,hbad,er2]
   by_cases e2:i=(rts p s t).length
   ·subst e2
    rw [hil,dw (by rw [List.length_append,List.length_singleton,hil];omega),kF,hbs]
    simp
   ·rw [hil,bT (Ne.symm e2),jk (by omega),jk (by omega)]
    have:aX p s t≠at' (rts p s t) i:=fun q=>hm (q ▸ at_mem (by omega))
    rw [decide_eq_false this]
    unfold dK;rw [uy (by omega),ss0];simp
theorem NW {k:Nat} (hk:k<p.sources.length):bB p s ⟨(qA p s p.links.length).1⟩ (I4 (rts p s p.buses.toNat)) (dK p s p.buses.toNat k,(k:Int))=some (.next (dK p s p.buses.toNat (k+1),((k+1:Nat):Int))):=by
 have hl:=(hp.src k hk).bus;have h1:=hs.on;have h2:=hs.badSource;have h3:=hs.badBus;have h4:=hp.sl;have hb:=hp.b
 have hrl:=BQ (p:=p) (s:=s) p.buses.toNat
 have hcb:(bif (bif (at' s.on_ k)then(!(at' s.badSource k))else false)then(!(at' s.badBus (((at' p.sources k).bus).toNat)))else false)=o7 p s k:=by
  unfold o7
  cases at' s.on_ k<;>cases at' s.badSource k<;>cases at' s.badBus (at' p.sources k).bus.toNat<;>rfl
 unfold bB
 dsimp only
 rw [Int.toNat_natCast,decide_eq_true (show(k:Int)<(p.sources.length:Int) by omega),cond_true,aA (by omega),aA ⟨by omega,fun _=>by omega,fun _=>by omega⟩,hcb,wr (by omega)]
 cases hf:o7 p s k with
 |false=>
  have:dK p s p.buses.toNat (k+1)=dK p s p.buses.toNat k:=by
   unfold dK
   refine List.map_congr_left fun h _=> ?_
   rw [Hg,hf,if_neg (by simp),List.append_nil]
  rw [this];rfl
 |true=>
  have hbad:at' s.badBus (at' p.sources k).bus.toNat=false:=by
   unfold o7 at hf
   revert hf
   cases at' s.badBus (at' p.sources k).bus.toNat<;>simp
  have hm:aX p s (at' p.sources k).bus.toNat∈rts p s p.buses.toNat:=yH.2 ⟨_,by omega,hbad,rfl⟩
  obtain⟨j,hj,e⟩:=iY hm
  have hg:=D9 rfl (qG p.buses.toNat) hj
  rw [e]at hg
  have eh:(qA p s p.links.length).2 (at' p.sources k).bus=aX p s (at' p.sources k).bus.toNat:=by unfold aX;rw [Int.toNat_of_nonneg (by omega)]
  have hil: ∀k,(dK p s p.buses.toNat k).length=(rts p s p.buses.toNat).length:=fun k=>by unfold dK;rw [List.length_map]
  have hat:at' (dK p s p.buses.toNat k) j=⟨Cj p s p.buses.toNat (aX p s (at' p.sources k).bus.toNat),tq p s k (aX p s (at' p.sources k).bus.toNat)⟩:=by unfold dK;rw [uy hj,e]
  have hsl:=Eh (p:=p) (s:=s) k (aX p s (at' p.sources k).bus.toNat)
  rw [cond_true,DW hp,Option.bind_some,eh,hg,Option.getD_some,Int.toNat_natCast,hat,aA ⟨by rw [hil];omega,by simp;omega,by simp;omega⟩]
  refine congrArg (fun l=>some (aU.next (l,_))) ?_
  refine K6 (by rw [List.length_set,hil,hil]) fun i hi=> ?_
  rw [List.length_set,hil]at hi
  have h5:at' (dK p s p.buses.toNat (k+1)) i=⟨Cj p s p.buses.toNat (at' (rts p s p.buses.toNat) i),tq p s (k+1) (at' (rts p s p.buses.toNat) i)⟩:=by unfold dK;rw [uy hi]
  rw [h5,Hg,hf]
  by_cases e2:j=i
  ·subst e2
   rw [dw (by rw [hil];omega),e]
   simp
  ·rw [bT e2]
   have:aX p s (at' p.sources k).bus.toNat≠at' (rts p s p.buses.toNat) i:=fun q=>by
    have hn:=qG (p:=p) (s:=s) p.buses.toNat
    rw [gQ hi,←e,gQ hj]at q
    exact e2 ((List.getElem_inj hn).1 q)
   rw [decide_eq_false this]
   unfold dK;rw [uy hi];simp
theorem FZ:fT p s=some (dK p s p.buses.toNat p.sources.length):=by
 have hb:=hp.b;have h4:=hp.sl
 unfold fT
 simp only [jv,Option.bind_some]
 rw [zC hp hs,Option.bind_some]
 have e1:aD (bD p s ⟨(qA p s p.links.length).1⟩) FUEL (dK p s 0 0,I4 (rts p s 0),((0:Nat):Int))=some (.brk (dK p s p.buses.toNat 0,I4 (rts p s p.buses.toNat))):=by
  refine bO (fun t=>(dK p s t 0,I4 (rts p s t),(t:Int))) p.buses.toNat _ (fuel_lt (by omega)) (fun t ht=>Oz hp hs (by omega)) ?_
  unfold bD
  dsimp only
  rw [decide_eq_false (by omega)];rfl
 have e1':aD (bD p s ⟨(qA p s p.links.length).1⟩) FUEL (([]:List aH),([]:List (Int × Int)),0)=_:=e1
 have e2:aD (bB p s ⟨(qA p s p.links.length).1⟩ (I4 (rts p s p.buses.toNat))) FUEL (dK p s p.buses.toNat 0,((0:Nat):Int))=some (.brk (dK p s p.buses.toNat p.sources.length)):=by
  refine bO (fun k=>(dK p s p.buses.toNat k,(k:Int))) p.sources.length _ (fuel_lt (by omega)) (fun k hk=>NW hp hs hk) ?_
  unfold bB
  dsimp only
  rw [decide_eq_false (by omega)];rfl
 have e2':aD (bB p s ⟨(qA p s p.links.length).1⟩ (I4 (rts p s p.buses.toNat))) FUEL (dK p s p.buses.toNat 0,0)=_:=e2
 rw [e1']
 simp only [Option.bind_some]
 rw [e2'];rfl
end
section
variable {p:aC} {s:State} (hp:VP p) (hs:VS p s)
include hp hs
end
theorem Qr {α:Type} (n:Nat) (f:Nat→α):tab (n+1) f=tab n f++[f n]:=by simp [tab,List.range_succ]
section
variable {p:aC} {s:State} (hp:VP p) (hs:VS p s)
include hp hs
def LV (p:aC) (L:List Bool) (k:Nat):bJ:=⟨at' L (at' p.racks k).feeds.e0.toNat,bif decide (0≤(at' p.racks k).feeds.e1)then at' L (at' p.racks k).feeds.e1.toNat else false⟩
theorem QM {L:List Bool} (h1:dJ p s=some (L,0)) (h3:(L.length:Int)=p.buses):sH p s=some (tab p.racks.length (LV p L),0):=by
 have hrl:=hp.rl
 ·unfold sH
  rw [h1,Option.bind_some]
  simp only [decide_true,Bool.not_true,cond_false]
  have key:aD (je p (L,0)) FUEL (tab 0 (LV p L),((0:Nat):Int))=some (.brk (tab p.racks.length (LV p L))):=by
   refine bO (body:=je p (L,0)) (fun t=>(tab t (LV p L),(t:Int))) p.racks.length _ (fuel_lt (by omega)) (fun t ht=> ?_) ?_
   ·have hr:=hp.rck t ht
    have r0:=hr.e0;have r1:=hr.e1
    unfold je
    have d1:decide ((t:Int)<(p.racks.length:Int))=true:=decide_eq_true (by omega)
    have d2:decide (0≤(at' p.racks t).feeds.e0)=true:=decide_eq_true (by omega)
    simp only [d1,cond_true,Int.toNat_natCast,d2]
    have q1: ∀l,gB [(decide (0≤(at' p.racks t).feeds.e1),true)]=l→l=true→0≤(at' p.racks t).feeds.e1:=fun l e h=>by
     subst e;simp [gB]at h;exact h
    rw [aA (by omega),aA (fun _=>by omega),aA (fun h=>by have:=q1 _ rfl h;omega),aA (by rw [kR,List.length_singleton];omega),wr (by omega),Qr]
    rfl
   ·unfold je
    have d1:decide ((p.racks.length:Int)<(p.racks.length:Int))=false:=decide_eq_false (by omega)
    simp only [d1,cond_false]
  have key':aD (je p (L,0)) FUEL ([],0)=_:=key
  rw [key'];rfl
end
theorem Tp (a b:Bool):(bif a then true else b)=(a||b):=by cases a<;>rfl
theorem KV {a b:Int} (h:a<b):decide (a<b)=true:=decide_eq_true h
theorem RU {a b:Int} (h:b≤a):decide (a<b)=false:=decide_eq_false (by omega)
def oI {α:Type} (f:Nat→List α):Nat→List α
 |0=>[]
 |n+1=>oI f n++f n
theorem qW {α:Type} {f:Nat→List α} {x:α}: ∀{n:Nat},x∈oI f n↔ ∃i,i<n∧x∈f i
 |0=>by simp [oI]
 |n+1=>by
  rw [oI,List.mem_append,qW]
  constructor
  ·rintro (⟨i,h,g⟩|g)
   ·exact⟨i,by omega,g⟩
   ·exact⟨n,by omega,g⟩
  ·rintro ⟨i,h,g⟩
   by_cases e:i=n
   ·subst e;exact .inr g
   ·exact .inl ⟨i,by omega,g⟩
theorem nu {α:Type} {f:Nat→List α} {m:Nat}: ∀{n:Nat},(∀i,i<n→(f i).length≤m)→(oI f n).length≤n*m
 |0,_=>by simp [oI]
 |n+1,h=>by
  have h1:=nu (n:=n) fun i hi=>h i (by omega)
  have h2:=h n (by omega)
  rw [oI,List.length_append,Nat.add_mul,Nat.one_mul];omega
theorem Ap {α ρ:Type} {body:List α × Int→Option (aU (List α × Int) (Ex (List α) ρ))} (k n:Nat) (f:Nat→List α) (o0:List α) (hn:n≤1000000000)
  (hb: ∀i,i<n→body (o0++oI f i,((k+i:Nat):Int))=some (.next (o0++oI f (i+1),((k+(i+1):Nat):Int)))) (he:body (o0++oI f n,((k+n:Nat):Int))=some (.done (.brk (o0++oI f n)))):
  aD body FUEL (o0,(k:Int))=some (.brk (o0++oI f n)):=by
 have:=bO (N:=FUEL) (body:=body) (fun i=>(o0++oI f i,((k+i:Nat):Int))) n (.brk (o0++oI f n)) (fuel_lt (by omega)) hb he
 simpa [oI]using this
def YU (a b:Source):Bool:=decide (a.sync=0)|| !decide (a.sync=b.sync)
def KU (p:aC) (a b:Int):List au:=if YU (at' p.sources a.toNat) (at' p.sources b.toNat)=true then [⟨a,b⟩]else []
theorem Ho (p:aC) (a b:Int):(KU p a b).length≤1:=by unfold KU;split<;>simp
def pR (p:aC) (l:List Int):List au:=oI (fun i=>oI (fun j=>KU p (at' l i) (at' (l.drop (i+1)) j)) (l.length - (i+1))) l.length
theorem Ao (p:aC) (l:List Int) (hl:l.length≤8):(pR p l).length≤64:=by
 have h1: ∀i,i<l.length→(oI (fun j=>KU p (at' l i) (at' (l.drop (i+1)) j)) (l.length - (i+1))).length≤8:=fun i hi=>by
  have:=nu (f:=fun j=>KU p (at' l i) (at' (l.drop (i+1)) j)) (n:=l.length - (i+1)) (m:=1) fun j _=>Ho _ _ _
  omega
 have:=nu h1
 unfold pR
 have h2:l.length*8≤8*8:=Nat.mul_le_mul_right 8 hl
 omega
def ClP (p:aC) (s:State) (x:au):Prop:= ∃i k:Nat,x=⟨i,k⟩∧i<k∧k<p.sources.length∧o7 p s i=true∧o7 p s k=true∧(∃l,Wk p s (at' p.sources i).bus.toNat l (at' p.sources k).bus.toNat)∧YU (at' p.sources i) (at' p.sources k)=true
def Rk (p:aC) (s:State):List au:=oI (fun t=>pR p (at' (dK p s p.buses.toNat p.sources.length) t).sources) (dK p s p.buses.toNat p.sources.length).length
def MK (p:aC) (s:State):List au:=(Rk p s).mergeSort fun x y=> !decide (bG y x<0)
section
variable {p:aC} {s:State} (hp:VP p) (hs:VS p s)
include hp
theorem Rp {isl:List aH} {t i:Nat} (ht:t<isl.length) (hl:(at' isl t).sources.length≤8) (hm: ∀x∈(at' isl t).sources,0≤x∧x<(p.sources.length:Int)) (hi:i<(at' isl t).sources.length) (o:List au) (ho:o.length≤100000):
  aD (jr p isl (t:Int) (i:Int)) FUEL (o,0)=some (.brk (o++oI (fun j=>KU p (at' (at' isl t).sources i) (at' ((at' isl t).sources.drop (i+1)) j)) ((at' isl t).sources.length - (i+1)))):=by
 have hsl:=hp.sl
 generalize hL:(at' isl t).sources=l at*
 have hw:(IntKind.wrap .i64 ((i:Int)+1)).toNat=i+1:=by rw [wr (by omega)];omega
 refine Ap 0 (l.length - (i+1)) (fun j=>KU p (at' l i) (at' (l.drop (i+1)) j)) o (by omega) (fun j hj=> ?_) ?_
 ·have hA:=nu (f:=fun j=>KU p (at' l i) (at' (l.drop (i+1)) j)) (n:=j) (m:=1) fun j _=>Ho _ _ _
  unfold jr
  simp only [Int.toNat_natCast,hL,hw,Nat.zero_add]
  have hd:(l.drop (i+1)).length=l.length - (i+1):=List.length_drop
  rw [KV (by omega),cond_true,aA (by rw [hd];omega)]
  have hx1:=hm _ (at_mem hi)
  have hjd:j<(l.drop (i+1)).length:=by omega
  have hx2:=hm _ (List.mem_of_mem_drop (at_mem hjd))
  rw [aA ⟨hx1,fun _=>hx1,fun _=>hx2⟩,Tp,wr (x:=(j:Int)+1) (by omega)]
  show(bif YU (at' p.sources (at' l i).toNat) (at' p.sources (at' (l.drop (i+1)) j).toNat)then _ else _)=_
  rw [oI]
  unfold KU
  cases hc:YU (at' p.sources (at' l i).toNat) (at' p.sources (at' (l.drop (i+1)) j).toNat)with
  |true=>
   rw [cond_true,if_pos rfl,aA ⟨by simp only [List.length_append,List.length_singleton];unfold KU at hA;omega,by simp only [List.length_append,List.length_singleton];unfold KU at hA;omega⟩,List.append_assoc]
   rfl
  |false=>
   rw [cond_false,if_neg (by simp),List.append_nil]
   rfl
 ·unfold jr
  simp only [Int.toNat_natCast,hL,hw,Nat.zero_add]
  have:decide (((l.length - (i+1):Nat):Int)<((l.length - (i+1):Nat):Int))=false:=decide_eq_false (by omega)
  rw [this,cond_false]
theorem Qk {isl:List aH} {t:Nat} (ht:t<isl.length) (hl:(at' isl t).sources.length≤8) (hm: ∀x∈(at' isl t).sources,0≤x∧x<(p.sources.length:Int)) (o:List au) (ho:o.length≤90000):
  aD (jy p isl (t:Int)) FUEL (o,0)=some (.brk (o++pR p (at' isl t).sources)):=by
 have hsl:=hp.sl
 refine Ap 0 (at' isl t).sources.length (fun i=>oI (fun j=>KU p (at' (at' isl t).sources i) (at' ((at' isl t).sources.drop (i+1)) j)) ((at' isl t).sources.length - (i+1))) o (by omega) (fun i hi=> ?_) ?_
 ·have hA:=nu (f:=fun i=>oI (fun j=>KU p (at' (at' isl t).sources i) (at' ((at' isl t).sources.drop (i+1)) j)) ((at' isl t).sources.length - (i+1))) (n:=i) (m:=8) fun i' _=>by
   have:=nu (f:=fun j=>KU p (at' (at' isl t).sources i') (at' ((at' isl t).sources.drop (i'+1)) j)) (n:=(at' isl t).sources.length - (i'+1)) (m:=1) fun j _=>Ho _ _ _
   omega
  have h8:i*8≤8*8:=Nat.mul_le_mul_right 8 (by omega)
  unfold jy
  simp only [Int.toNat_natCast,Nat.zero_add]
  rw [KV (by omega),cond_true,aA (by omega),wr (by omega),aA (by omega),Rp hp ht hl hm hi _ (by rw [List.length_append];omega),Option.bind_some]
  rw [oI,List.append_assoc]
  rfl
 ·unfold jy
  simp only [Int.toNat_natCast,Nat.zero_add]
  have:decide (((at' isl t).sources.length:Int)<((at' isl t).sources.length:Int))=false:=decide_eq_false (by omega)
  rw [this,cond_false]
theorem Rc {isl:List aH} (hn:isl.length≤24) (hl: ∀t,t<isl.length→(at' isl t).sources.length≤8) (hm: ∀t,t<isl.length→ ∀x∈(at' isl t).sources,0≤x∧x<(p.sources.length:Int)):
  aD (gU p isl) FUEL ([],0)=some (.brk (oI (fun t=>pR p (at' isl t).sources) isl.length)):=by
 have:=Ap (body:=gU p isl) 0 isl.length (fun t=>pR p (at' isl t).sources) [] (by omega) (fun t ht=> ?_) ?_
 ·simpa using this
 ·have hA:=nu (f:=fun t=>pR p (at' isl t).sources) (n:=t) (m:=64) fun i hi=>Ao _ _ (hl i (by omega))
  have h8:t*64≤24*64:=Nat.mul_le_mul_right 64 (by omega)
  unfold gU
  simp only [Int.toNat_natCast,Nat.zero_add]
  rw [KV (by omega),cond_true,aA (by omega),Qk hp ht (hl t ht) (hm t ht) _ (by rw [List.length_append];simp;omega),Option.bind_some,wr (by omega),oI,List.append_assoc]
  rfl
 ·unfold gU
  simp only [Int.toNat_natCast,Nat.zero_add]
  have:decide ((isl.length:Int)<(isl.length:Int))=false:=decide_eq_false (by omega)
  rw [this,cond_false]
include hs
theorem LK:dA p s=some (MK p s,0)∧ ∀x,x∈MK p s↔ClP p s x:=by
 have hb:=hp.b;have hsl:=hp.sl
 have hrl:=BQ (p:=p) (s:=s) p.buses.toNat
 have hlen:(dK p s p.buses.toNat p.sources.length).length=(rts p s p.buses.toNat).length:=by simp [dK]
 have hat: ∀t,t<(rts p s p.buses.toNat).length→(at' (dK p s p.buses.toNat p.sources.length) t).sources=tq p s p.sources.length (at' (rts p s p.buses.toNat) t):=fun t ht=>by
  unfold dK;rw [uy ht]
 have hss: ∀h x,x∈tq p s p.sources.length h↔ ∃i:Nat,x=(i:Int)∧i<p.sources.length∧o7 p s i=true∧aX p s (at' p.sources i).bus.toNat=h:=by
  intro h x
  unfold tq
  rw [List.mem_map]
  constructor
  ·rintro ⟨i,hi,rfl⟩
   rw [List.mem_filter,List.mem_range,Bool.and_eq_true,decide_eq_true_eq]at hi
   exact⟨i,rfl,hi.1,hi.2.1,hi.2.2⟩
  ·rintro ⟨i,rfl,h1,h2,h3⟩
   exact⟨i,List.mem_filter.2 ⟨List.mem_range.2 h1,by rw [h2,decide_eq_true h3];rfl⟩,rfl⟩
 have hsorted: ∀h,(tq p s p.sources.length h).Pairwise (· < ·):=by
  intro h
  unfold tq
  rw [List.pairwise_map]
  exact(List.pairwise_lt_range.filter _).imp fun hab=>Int.ofNat_lt.2 hab
 have hl8: ∀t,t<(dK p s p.buses.toNat p.sources.length).length→(at' (dK p s p.buses.toNat p.sources.length) t).sources.length≤8:=fun t ht=>by
  rw [hat t (by omega)];have:=Eh (p:=p) (s:=s) p.sources.length (at' (rts p s p.buses.toNat) t);omega
 have hmm: ∀t,t<(dK p s p.buses.toNat p.sources.length).length→ ∀x∈(at' (dK p s p.buses.toNat p.sources.length) t).sources,0≤x∧x<(p.sources.length:Int):=fun t ht x hx=>by
  rw [hat t (by omega),hss]at hx;obtain⟨i,rfl,h1,_⟩:=hx;omega
 unfold MK Rk
 generalize hout:oI (fun t=>pR p (at' (dK p s p.buses.toNat p.sources.length) t).sources) (dK p s p.buses.toNat p.sources.length).length=out
 have hol:out.length≤24*64:=by
  have hA:=nu (f:=fun t=>pR p (at' (dK p s p.buses.toNat p.sources.length) t).sources) (n:=(dK p s p.buses.toNat p.sources.length).length) (m:=64) fun i hi=>Ao _ _ (hl8 i hi)
  rw [hout]at hA
  have:(dK p s p.buses.toNat p.sources.length).length*64≤24*64:=Nat.mul_le_mul_right 64 (by omega)
  omega
 have hlm:(out.mergeSort fun x y=> !decide (bG y x<0)).length=out.length:=List.length_mergeSort _
 refine⟨?_,fun x=> ?_⟩
 ·unfold dA
  have h0:sZ p s=0:=mJ.mpr ⟨hp,hs⟩
  rw [lI p s (VP.small hp),h0,Option.bind_some]
  simp only [decide_true,Bool.not_true,cond_false]
  rw [FZ hp hs,Option.bind_some,Rc hp (by omega) hl8 hmm]
  simp only [Option.bind_some]
  rw [hout]
  have hsf:iG out=some (out.mergeSort fun x y=> !decide (bG y x<0)):=by
   clear hlm hout
   cases out with
   |nil=>simp [iG]
   |cons a l=>unfold iG;simp only;rw [decide_eq_true (by omega)];rfl
  rw [hsf,Option.bind_some,aA hlm.symm]
 ·rw [List.mem_mergeSort]
  constructor
  ·intro hx
   rw [←hout,qW]at hx
   obtain⟨t,ht,hx⟩:=hx
   have ht':t<(rts p s p.buses.toNat).length:=by omega
   rw [hat t ht']at hx
   unfold pR at hx
   rw [qW]at hx
   obtain⟨i,hi,hx⟩:=hx
   rw [qW]at hx
   obtain⟨j,hj,hx⟩:=hx
   unfold KU at hx
   split at hx
   ·rename_i hc
    have hjd:j<((tq p s p.sources.length (at' (rts p s p.buses.toNat) t)).drop (i+1)).length:=by rw [List.length_drop];exact hj
    rw [Bo]at hc
    have hi2:j+(i+1)<(tq p s p.sources.length (at' (rts p s p.buses.toNat) t)).length:=by omega
    obtain⟨a,ea,ha1,ha2,ha3⟩:=(hss _ _).1 (at_mem hi)
    obtain⟨b,eb,hb1,hb2,hb3⟩:=(hss _ _).1 (at_mem hi2)
    have hlt:at' (tq p s p.sources.length (at' (rts p s p.buses.toNat) t)) i<at' (tq p s p.sources.length (at' (rts p s p.buses.toNat) t)) (j+(i+1)):=by
     rw [gQ hi,gQ hi2]
     exact List.pairwise_iff_getElem.1 (hsorted _) i (j+(i+1)) hi hi2 (by omega)
    rw [ea,eb]at hc hlt
    rw [List.mem_singleton]at hx
    refine⟨a,b,by rw [hx,Bo,ea,eb],by omega,hb1,ha2,hb2, ?_,by simpa using hc⟩
    have hA:=(hp.src a ha1).bus;have hB:=(hp.src b hb1).bus
    exact(Bp hp (by omega) (by omega)).1 (ha3.trans hb3.symm)
   ·cases hx
  ·rintro ⟨a,b,rfl,hab,hb1,ha2,hb2,hw,hc⟩
   have ha1:a<p.sources.length:=by omega
   have hA:=(hp.src a ha1).bus;have hB:=(hp.src b hb1).bus
   have hh:=(Bp hp (u:=(at' p.sources a).bus.toNat) (v:=(at' p.sources b).bus.toNat) (by omega) (by omega)).2 hw
   have hfa:at' s.badBus (at' p.sources a).bus.toNat=false:=by
    unfold o7 at ha2;simp only [Bool.and_eq_true,Bool.not_eq_true']at ha2;exact ha2.2
   have hr:aX p s (at' p.sources a).bus.toNat∈rts p s p.buses.toNat:=yH.2 ⟨_,by omega,hfa,rfl⟩
   obtain⟨t,ht,et⟩:=iY hr
   have m1:((a:Nat):Int)∈tq p s p.sources.length (at' (rts p s p.buses.toNat) t):=(hss _ _).2 ⟨a,rfl,ha1,ha2,et.symm⟩
   have m2:((b:Nat):Int)∈tq p s p.sources.length (at' (rts p s p.buses.toNat) t):=(hss _ _).2 ⟨b,rfl,hb1,hb2,by rw [et];exact hh.symm⟩
   obtain⟨i,hi,ei⟩:=iY m1
   obtain⟨k,hk,ek⟩:=iY m2
   have hik:i<k:=by
    rcases Nat.lt_trichotomy i k with h|h|h
    ·exact h
    ·subst h;rw [ei]at ek;omega
    ·have:=List.pairwise_iff_getElem.1 (hsorted (at' (rts p s p.buses.toNat) t)) k i hk hi h
     rw [←gQ hk,←gQ hi,ei,ek]at this;omega
   rw [←hout,qW]
   refine⟨t,by omega, ?_⟩
   rw [hat t ht]
   unfold pR
   rw [qW]
   refine⟨i,hi,qW.2 ⟨k - (i+1),by omega, ?_⟩⟩
   rw [Bo,show k - (i+1)+(i+1)=k by omega,ei,ek]
   unfold KU
   rw [if_pos (by simpa using hc)]
   exact List.mem_singleton.2 rfl
end
structure GI (s:State):Prop where
 l0:s.closed.length≤140737488351232
 l1:s.locked.length≤140737488351232
 l2:s.badLink.length≤140737488351232
 l3:s.on_.length≤140737488351232
 l4:s.badSource.length≤140737488351232
 l5:s.earthed.length≤140737488351232
 l6:s.badBus.length≤140737488351232
theorem fV (l:List Bool) (h:l.length≤140737488351232):bZ l=some l:=by
 unfold bZ;rw [aA (by omega)]
theorem Ei (s:State) (h:GI s):lT s=some s:=by
 obtain⟨h0,h1,h2,h3,h4,h5,h6⟩:=h
 unfold lT
 rw [fV _ h0,fV _ h1,fV _ h2,fV _ h3,fV _ h4,fV _ h5,fV _ h6]
 rfl
theorem VS.room {p:aC} {s:State} (hp:VP p) (h:VS p s):GI s:=by
 have h1:=hp.ll;have h2:=hp.sl;have h3:=hp.b
 obtain⟨a1,a2,a3,a4,a5,a6,a7,_⟩:=h
 exact⟨by omega,by omega,by omega,by omega,by omega,by omega,by omega⟩
theorem gY (l:List Bool) (h:l.length≤140737488351232):aP l=some l:=by
 unfold aP rR
 rw [Bool.not_true,cond_false,aA ⟨by simp only [List.length_nil];omega,by simp only [List.length_nil];omega⟩];rfl
theorem GJ (s:State) (h:GI s):nW s=some s:=by
 obtain⟨h0,h1,h2,h3,h4,h5,h6⟩:=h
 unfold nW
 rw [gY _ h0,gY _ h1,gY _ h2,gY _ h3,gY _ h4,gY _ h5,gY _ h6]
 rfl
def wB (s:State) (x:Part) (b:Bool):State:=
 if x.kind=1 then⟨s.closed,s.locked,s.badLink,s.on_,s.badSource,s.earthed,s.badBus.set x.index.toNat b⟩
 else if x.kind=2 then⟨s.closed,s.locked,s.badLink,s.on_,s.badSource.set x.index.toNat b,s.earthed,s.badBus⟩
 else⟨s.closed,s.locked,s.badLink.set x.index.toNat b,s.on_,s.badSource,s.earthed,s.badBus⟩
def uw (p:aC) (x:Part):Prop:=0≤x.index∧(x.kind=1∧x.index<p.buses∨x.kind=2∧x.index<(p.sources.length:Int)∨x.kind=3∧x.index<(p.links.length:Int))
section
variable {p:aC} {s:State} (hp:VP p) (hs:VS p s)
include hp hs
theorem GH {x:Part} (hx:uw p x) (is:Bool):jg p s x is=some (wB s x is,0):=by
 have hb:=hp.b;have hsl:=hp.sl;have hll:=hp.ll
 have h7:=hs.badBus;have h3:=hs.badLink;have h5:=hs.badSource
 obtain⟨c,j⟩:=x
 obtain⟨h0,h⟩:=hx
 simp only at h0 h
 unfold jg
 rw [lI p s hp.small,mJ.mpr ⟨hp,hs⟩,Option.bind_some,decide_eq_true rfl,Bool.not_true,cond_false,GJ s (hs.room hp),Option.bind_some]
 dsimp only
 rcases h with⟨rfl,hj⟩|⟨rfl,hj⟩|⟨rfl,hj⟩
 ·rw [show bM (1:Int) 1=true from rfl,cond_true,iE,Option.bind_some,wr (by omega),tF.mpr ⟨by omega,by omega⟩,Bool.not_true,cond_false,aA ⟨by omega,by omega⟩]
  rfl
 ·rw [show bM (2:Int) 1=false from rfl,cond_false,show bM (2:Int) 2=true from rfl,cond_true,iE,Option.bind_some,wr (by omega),tF.mpr ⟨by omega,by omega⟩,Bool.not_true,cond_false,aA ⟨by omega,by omega⟩]
  rfl
 ·rw [show bM (3:Int) 1=false from rfl,cond_false,show bM (3:Int) 2=false from rfl,cond_false,show bM (3:Int) 3=true from rfl,cond_true,iE,Option.bind_some,wr (by omega),tF.mpr ⟨by omega,by omega⟩,Bool.not_true,cond_false,aA ⟨by omega,by omega⟩]
  rfl
omit hp in
theorem VS.wB (x:Part) (b:Bool):VS p (wB s x b):=by
 have h7:=hs.badBus;have h3:=hs.badLink;have h5:=hs.badSource
 unfold Sg.wB
 split
 ·exact⟨hs.closed,hs.locked,hs.badLink,hs.on,hs.badSource,hs.earthed,by rw [List.length_set];exact h7,hs.cable⟩
 ·split
  ·exact⟨hs.closed,hs.locked,hs.badLink,hs.on,by rw [List.length_set];exact h5,hs.earthed,hs.badBus,hs.cable⟩
  ·exact⟨hs.closed,hs.locked,by rw [List.length_set];exact h3,hs.on,hs.badSource,hs.earthed,hs.badBus,hs.cable⟩
end
def PL (s:State) (i:Nat):State:=⟨s.closed.set i true,s.locked,s.badLink,s.on_,s.badSource,s.earthed,s.badBus⟩
theorem Xl {l:List Bool} {i q:Nat} (h:at' l q=true):at' (l.set i true) q=true:=by
 by_cases e:i=q
 ·subst e
  by_cases hl:i<l.length
  ·rw [dw hl]
  ·rw [List.set_eq_of_length_le (by omega)];exact h
 ·rwa [bT e]
theorem VS.close {p:aC} {s:State} (hs:VS p s) (i:Nat):VS p (PL s i):=
 ⟨by unfold PL;rw [List.length_set];exact hs.closed,hs.locked,hs.badLink,hs.on,hs.badSource,hs.earthed,hs.badBus,fun q hq hk=> ⟨Xl (hs.cable q hq hk).1,(hs.cable q hq hk).2⟩⟩
def iT (p:aC) (s:State):List Bool:=((dJ p s).getD default).1
section
variable {p:aC} {s:State} (hp:VP p) (hs:VS p s)
include hp hs
theorem Gt:dJ p s=some (iT p s,0):=by
 obtain⟨L,h,_⟩:=DY hp hs
 unfold iT;rw [h];rfl
theorem uG:((iT p s).length:Int)=p.buses:=by
 obtain⟨L,h,h1,_⟩:=DY hp hs
 unfold iT;rw [h];exact h1
theorem xK {b:Nat} (hb:(b:Int)<p.buses):at' (iT p s) b=true↔rQ p s b:=by
 obtain⟨L,h,_,h2⟩:=DY hp hs
 unfold iT;rw [h];exact h2 b hb
theorem Ed:dA p s=some (MK p s,0):=(LK hp hs).1
theorem GZ:(MK p s).length≤100000:=by
 have hb:=hp.b;have hsl:=hp.sl
 have hrl:=BQ (p:=p) (s:=s) p.buses.toNat
 have hlen:(dK p s p.buses.toNat p.sources.length).length=(rts p s p.buses.toNat).length:=by simp [dK]
 have hl8: ∀t,t<(dK p s p.buses.toNat p.sources.length).length→(at' (dK p s p.buses.toNat p.sources.length) t).sources.length≤8:=fun t ht=>by
  have e:(at' (dK p s p.buses.toNat p.sources.length) t).sources=tq p s p.sources.length (at' (rts p s p.buses.toNat) t):=by unfold dK;rw [uy (by omega)]
  rw [e];have:=Eh (p:=p) (s:=s) p.sources.length (at' (rts p s p.buses.toNat) t);omega
 unfold MK Rk
 rw [List.length_mergeSort]
 have hA:=nu (f:=fun t=>pR p (at' (dK p s p.buses.toNat p.sources.length) t).sources) (n:=(dK p s p.buses.toNat p.sources.length).length) (m:=64) fun i hi=>Ao _ _ (hl8 i hi)
 have:(dK p s p.buses.toNat p.sources.length).length*64≤24*64:=Nat.mul_le_mul_right 64 (by omega)
 omega
end
def Ae (p:aC) (i:Int):Bool:=bif (bif (decide (0≤i))then(decide (i<(p.links.length:Int)))else false)then(!decide (((at' p.links i.toNat).kind)=1))else false
theorem O9 (p:aC) (i x1:Int):dW i x1 p.sources p.links p.racks=some (Ae p i):=by
 unfold dW Ae
 rw [aA (fun h=>by
  by_cases h1:0≤i<;>by_cases h2:i<(p.links.length:Int)
  ·exact⟨h1,h2⟩
  all_goals (exfalso;revert h;simp [gB,h1,h2]))]
theorem Bf {p:aC} {i:Int}:Ae p i=true↔0≤i∧i<(p.links.length:Int)∧(at' p.links i.toNat).kind≠1:=by
 unfold Ae
 by_cases h1:0≤i<;>by_cases h2:i<(p.links.length:Int)<;>simp [h1,h2]
def Pz (p:aC) (x:Transfer):Bool:= !(bif (bif (bif (decide (x.watch<0))then true else(decide (p.buses≤x.watch)))then true else(!Ae p x.close))then true else(bif (!decide (x.open_=(-1)))then(bif (!Ae p x.open_)then true else(decide (x.open_=x.close)))else false))
theorem Qg (p:aC) (x:Transfer):fJ x p.buses p.sources p.links p.racks p.buses p.sources p.links p.racks=some (!Pz p x):=by
 unfold fJ Pz
 simp only [O9]
 generalize decide (x.watch<0)=b1
 generalize decide (p.buses≤x.watch)=b2
 generalize Ae p x.close=b3
 generalize decide (x.open_= -1)=b4
 generalize Ae p x.open_=b5
 generalize decide (x.open_=x.close)=b6
 cases b1<;>cases b2<;>cases b3<;>cases b4<;>cases b5<;>cases b6<;>rfl
structure RO (p:aC) (x:Transfer):Prop where
 watch:0≤x.watch∧x.watch<p.buses
 close:Ae p x.close=true
 open_:x.open_= -1∨Ae p x.open_=true∧x.open_≠x.close
theorem MS {p:aC} {x:Transfer}:Pz p x=true↔RO p x:=by
 have key:Pz p x=(!decide (x.watch<0) && (!decide (p.buses≤x.watch) && (Ae p x.close && (decide (x.open_= -1)||(Ae p x.open_ && !decide (x.open_=x.close)))))):=by
  unfold Pz
  generalize decide (x.watch<0)=b1
  generalize decide (p.buses≤x.watch)=b2
  generalize Ae p x.close=b3
  generalize decide (x.open_= -1)=b4
  generalize Ae p x.open_=b5
  generalize decide (x.open_=x.close)=b6
  cases b1<;>cases b2<;>cases b3<;>cases b4<;>cases b5<;>cases b6<;>rfl
 rw [key]
 simp only [Bool.and_eq_true,Bool.not_eq_true',Bool.or_eq_true,decide_eq_false_iff_not,decide_eq_true_eq]
 exact⟨fun⟨a,b,c,d⟩=> ⟨by omega,c,d⟩,fun⟨a,b,c⟩=> ⟨by omega,by omega,b,c⟩⟩
def RL (p:aC) (s:State) (l:List Transfer):Int:=bif !decide (sZ p s=0)then sZ p s else bif (bif decide (16<(l.length:Int))then true else l.any fun x=> !Pz p x)then 1 else 0
theorem Kc (p:aC) (s:State) (l:List Transfer) (hp:Small p) (hl:l.length≤9223372036854775807):eU p s l=some (RL p s l):=by
 have hc:fH l p.buses p.sources p.links p.racks p.buses p.sources p.links p.racks=some (l.any fun x=> !Pz p x):=by
  unfold fH jR
  rw [oJ l (fun x=> !Pz p x) id hl (fun i hi=> ?_) ?_]
  ·rw [←mG];cases l.findIdx? fun x=> !Pz p x<;>rfl
  ·unfold iO;simp
  ·unfold iO
   rw [Int.toNat_natCast,Qg]
   exact oZ hi hl _ id _
 unfold eU RL
 rw [lI p s hp,Option.bind_some,hc]
 by_cases h0:sZ p s=0
 ·rw [decide_eq_true h0,Bool.not_true,cond_false,cond_false]
  generalize l.any (fun x=> !Pz p x)=b2
  cases decide (16<(l.length:Int))<;>cases b2<;>rfl
 ·rw [decide_eq_false h0];rfl
theorem yt {p:aC} {s:State} {l:List Transfer}:RL p s l=0↔VP p∧VS p s∧l.length≤16∧ ∀x∈l,RO p x:=by
 unfold RL
 by_cases h0:sZ p s=0
 ·rw [decide_eq_true h0,Bool.not_true,cond_false]
  have hv:=mJ.mp h0
  by_cases hl:16<(l.length:Int)
  ·rw [decide_eq_true hl,cond_true,cond_true]
   exact⟨fun h=>absurd h (by decide),fun h=>absurd h.2.2.1 (by omega)⟩
  ·rw [decide_eq_false hl,cond_false]
   cases ha:l.any fun x=> !Pz p x with
   |true=>
    obtain⟨x,hx,hb⟩:=List.any_eq_true.1 ha
    refine⟨fun h=>absurd h (by decide),fun h=> ?_⟩
    rw [MS.2 (h.2.2.2 x hx)]at hb;cases hb
   |false=>
    refine⟨fun _=> ⟨hv.1,hv.2,by omega,fun x hx=> ?_⟩,fun _=>rfl⟩
    have:=List.any_eq_false.1 ha x hx
    exact MS.1 (by simpa using this)
 ·rw [decide_eq_false h0]
  exact⟨fun h=>absurd h h0,fun h=>absurd (mJ.mpr ⟨h.1,h.2.1⟩) h0⟩
def FJ (s:State) (x:Transfer):List Bool:=if 0≤x.open_ then(s.closed.set x.close.toNat true).set x.open_.toNat false else s.closed.set x.close.toNat true
def FQ (s:State) (x:Transfer):State:=⟨FJ s x,s.locked,s.badLink,s.on_,s.badSource,s.earthed,s.badBus⟩
theorem P8 (s:State) (x:Transfer):(FJ s x).length=s.closed.length:=by unfold FJ;split<;>simp
theorem VS.new {p:aC} {s:State} (hs:VS p s) {x:Transfer} (hx:RO p x):VS p (FQ s x):=by
 refine⟨(P8 s x).trans hs.closed,hs.locked,hs.badLink,hs.on,hs.badSource,hs.earthed,hs.badBus,fun i hi hk=> ⟨?_,(hs.cable i hi hk).2⟩⟩
 have hc:=(hs.cable i hi hk).1
 have h1:i≠x.close.toNat:=fun e=>(Bf.1 hx.close).2.2 (e ▸ hk)
 show at' (FJ s x) i=true
 unfold FJ
 split
 ·rcases hx.open_ with h|⟨h,_⟩
  ·omega
  ·have h2:i≠x.open_.toNat:=fun e=>(Bf.1 h).2.2 (e ▸ hk)
   rw [bT (Ne.symm h2),bT (Ne.symm h1)];exact hc
 ·rw [bT (Ne.symm h1)];exact hc
def Vs (s:State) (L:List Bool) (x:Transfer):Bool:=bif (bif (bif (bif (at' s.badBus x.watch.toNat)then true else(at' L x.watch.toNat))then true else(at' s.closed x.close.toNat))then true else(at' s.badLink x.close.toNat))then true else(at' s.locked x.close.toNat)
def V4 (s:State) (x:Transfer):Bool:=bif (at' s.badLink x.open_.toNat)then true else(at' s.locked x.open_.toNat)
def Db (L A E:List Bool) (b:Nat):Bool:=bif (bif (at' L b)then(!(at' A b))else false)then true else(bif (bif (at' A b)then(at' E b)else false)then(!(at' L b))else false)
def RH (x y:au):Bool:=(decide (x.e0=y.e0)) && ((decide (x.e1=y.e1)) && true)
theorem SH {x y:au}:RH x y=true↔x=y:=by
 unfold RH
 simp only [Bool.and_true,Bool.and_eq_true,decide_eq_true_eq]
 exact⟨fun h=>by cases x;cases y;simp only at h;rw [h.1,h.2],fun h=>by rw [h];exact⟨rfl,rfl⟩⟩
def J8 (p:aC) (s t:State) (x:Transfer):Bool:= !((List.range (iT p t).length).any (Db (iT p s) (iT p t) s.earthed)) && (at' (iT p t) x.watch.toNat && !((MK p t).any fun c=> !((MK p s).any (RH c))))
def JS (p:aC) (s:State) (x:Transfer):Bool:= !Vs s (iT p s) x && ((!decide (0≤x.open_)|| !V4 s x) && J8 p s (FQ s x) x)
theorem Na (l:List au) (v:au) (hl:l.length≤9223372036854775807):ku l v=some (l.any (RH v)):=by
 unfold ku rz
 rw [oJ l (RH v) id hl (fun i hi=> ?_) ?_]
 ·rw [←mG];cases l.findIdx? (RH v)<;>rfl
 ·unfold nC;simp
 ·unfold nC
  rw [Int.toNat_natCast]
  have h1:decide ((i:Int)<(l.length:Int))=true:=decide_eq_true (by omega)
  rw [h1,cond_true,aA (by omega),wr (by omega)]
  exact Ew _ _ _
theorem Jc (a b:List au) (ha:a.length≤9223372036854775807) (hb:b.length≤9223372036854775807):bX a b=some (a.any fun c=> !(b.any (RH c))):=by
 unfold bX jS
 rw [oJ a (fun c=> !(b.any (RH c))) id ha (fun i hi=> ?_) ?_]
 ·rw [←mG];cases a.findIdx? fun c=> !(b.any (RH c))<;>rfl
 ·unfold iQ;simp
 ·unfold iQ pF
  rw [Int.toNat_natCast,Na b _ hb,Option.bind_some]
  exact oZ hi ha _ id _
theorem Jt (s:State) (L A:List Bool) (e1 e2:Int) (hL:L.length=A.length) (hE:s.earthed.length=A.length) (hA:A.length≤1000):
  aD (gM s (L,e1) (A,e2)) FUEL 0=some (match(List.range A.length).find? (Db L A s.earthed)with|some _=> .ret (s,false)|none=> .brk ()):=by
 refine o9 A.length (Db L A s.earthed) (fun _=>(s,false)) (by omega) (fun i hi=> ?_) ?_
 ·unfold gM
  dsimp only
  rw [KV (by omega),cond_true,aA ⟨by omega,fun _=>by omega,fun _=>by omega,fun _=>by omega,fun _=>by omega⟩,Int.toNat_natCast,wr (by omega)]
  exact Ew _ _ _
 ·unfold gM
  dsimp only
  rw [RU (by omega)];rfl
section
variable {p:aC} {s t:State} (hp:VP p) (hs:VS p s) (ht:VS p t)
include hp hs ht
theorem Kt {x:Transfer} (hx:RO p x) (he:t.earthed=s.earthed):
  ((dJ p t).bind fun r_2=>
   Option.bind (aD (gM s (iT p s,0) r_2) FUEL (0)) fun o=>match o with
   | .ret v=>some v
   | .brk _=>
   (dA p s).bind fun r_3=>
   (dA p t).bind fun r_4=>
   (bif gB [((!(at' r_2.1 x.watch.toNat)),false)]then bX r_4.1 r_3.1 else some default).bind fun r_5=>
   cu ((0:Int)≤x.watch∧x.watch<(r_2.1.length:Int)) (
   bif (bif (!(at' r_2.1 x.watch.toNat))then true else r_5)then
   some (s,false)
   else
   some (t,true)))=some (bif J8 p s t x then(t,true)else(s,false)):=by
 have hb:=hp.b
 have l1:=uG hp hs;have l2:=uG hp ht;have l3:=hs.earthed
 have c1:=GZ hp hs;have c2:=GZ hp ht
 obtain⟨w1,w2⟩:=hx.watch
 rw [Gt hp ht,Option.bind_some,Jt s (iT p s) (iT p t) 0 0 (by omega) (by omega) (by omega),Option.bind_some]
 unfold J8
 have hf:=xE (Db (iT p s) (iT p t) s.earthed) (List.range (iT p t).length)
 cases hq:(List.range (iT p t).length).find? (Db (iT p s) (iT p t) s.earthed)with
 |some k=>
  rw [hq]at hf
  rw [←hf];rfl
 |none=>
  rw [hq]at hf
  rw [←hf]
  dsimp only
  rw [Ed hp hs,Option.bind_some,Ed hp ht,Option.bind_some]
  dsimp only
  rw [Jc _ _ (by omega) (by omega)]
  generalize (MK p t).any (fun c=> !((MK p s).any (RH c)))=b2
  cases at' (iT p t) x.watch.toNat with
  |false=>
   show cu _ _=_
   rw [aA ⟨by omega,by omega⟩];rfl
  |true=>
   show cu _ _=_
   rw [aA ⟨by omega,by omega⟩];cases b2<;>rfl
omit ht in
theorem Q0 {x:Transfer} (hx:RO p x):lJ p s x=some (bif JS p s x then(FQ s x,true)else(s,false)):=by
 have hb:=hp.b;have hll:=hp.ll
 have l1:=uG hp hs;have l2:=hs.badBus;have l3:=hs.closed;have l4:=hs.badLink;have l5:=hs.locked
 obtain⟨w1,w2⟩:=hx.watch
 obtain⟨c1,c2,_⟩:=Bf.1 hx.close
 have hn:=hs.new hx
 unfold lJ
 rw [Gt hp hs,Option.bind_some]
 dsimp only
 rw [aA ⟨⟨by omega,by omega⟩,fun _=> ⟨by omega,by omega⟩,fun _=> ⟨by omega,by omega⟩,fun _=> ⟨by omega,by omega⟩,fun _=> ⟨by omega,by omega⟩⟩]
 unfold JS
 show(bif Vs s (iT p s) x then _ else _)=_
 cases hA:Vs s (iT p s) x with
 |true=>rfl
 |false=>
  rw [cond_false,gY _ (by omega),Option.bind_some,aA ⟨by omega,by omega⟩]
  by_cases ho:0≤x.open_
  ·have hm:Ae p x.open_=true:=by
    rcases hx.open_ with h|h
    ·omega
    ·exact h.1
   obtain⟨o1,o2,_⟩:=Bf.1 hm
   rw [decide_eq_true ho,cond_true,aA ⟨⟨by omega,by omega⟩,fun _=> ⟨by omega,by omega⟩⟩]
   show(bif V4 s x then _ else _)=_
   cases hO:V4 s x with
   |true=>rfl
   |false=>
    rw [cond_false,aA ⟨by omega,by rw [List.length_set];omega⟩]
    have e:FQ s x=⟨(s.closed.set x.close.toNat true).set x.open_.toNat false,s.locked,s.badLink,s.on_,s.badSource,s.earthed,s.badBus⟩:=by unfold FQ FJ;rw [if_pos ho]
    have:=Kt hp hs hn hx rfl
    rw [e]at this ⊢
    exact this
  ·rw [decide_eq_false ho,cond_false,show ve=gM from rfl]
   have e:FQ s x=⟨s.closed.set x.close.toNat true,s.locked,s.badLink,s.on_,s.badSource,s.earthed,s.badBus⟩:=by unfold FQ FJ;rw [if_neg ho]
   have:=Kt hp hs hn hx rfl
   rw [e]at this ⊢
   exact this
end
def cntF (d:List Bool):Nat:=d.countP (fun b=> !b)
theorem xB: ∀(d:List Bool) (i:Nat),i<d.length→at' d i=false→cntF (d.set i true)+1=cntF d
 |b::d,0,_,h=>by
  have h:b=false:=h
  subst h
  simp [cntF]
 |b::d,i+1,hi,h=>by
  have ih:=xB d i (by simpa using hi) h
  unfold cntF at ih ⊢
  rw [List.set_cons_succ,List.countP_cons,List.countP_cons]
  omega
theorem M5 (d:List Bool):cntF d≤d.length:=List.countP_le_length
def sF (p:aC) (s:State) (l:List Transfer) (d:List Bool):Option Nat:=(List.range l.length).find? fun i=> !at' d i && JS p s (at' l i)
theorem rW {p:aC} {s:State} {l:List Transfer} {d:List Bool} {i:Nat} (h:sF p s l d=some i):i<l.length∧at' d i=false∧JS p s (at' l i)=true:=by
 have h1:=List.mem_range.1 (List.mem_of_find?_eq_some h)
 have h2:=List.find?_some h
 simp only [Bool.and_eq_true,Bool.not_eq_true']at h2
 exact⟨h1,h2⟩
def A8 (p:aC) (l:List Transfer):Nat→State→List Int→List Bool→State × List Int × List Bool
 |0,s,o,d=>(s,o,d)
 |n+1,s,o,d=>match sF p s l d with
  |none=>(s,o,d)
  |some i=>A8 p l n (FQ s (at' l i)) (o++[(i:Int)]) (d.set i true)
def lm (s:State) (c:List Bool):State:=⟨c,s.locked,s.badLink,s.on_,s.badSource,s.earthed,s.badBus⟩
section
variable {p:aC} {l:List Transfer} (hp:VP p) (hl:l.length≤16) (hx: ∀x∈l,RO p x)
include hp hl hx
theorem IZ {s:State} {c:List Bool} (hs:VS p (lm s c)) {o:List Int} {d:List Bool} (hd:d.length=l.length) (ho:o.length≤1000):
  aD (iW l p.buses p.sources p.links p.racks s c o d) FUEL 0=some (match sF p (lm s c) l d with|some i=> .ret (.next (FJ (lm s c) (at' l i),o++[(i:Int)],d.set i true))|none=> .brk ()):=by
 refine o9 l.length (fun i=> !at' d i && JS p (lm s c) (at' l i)) (fun i=>aU.next (FJ (lm s c) (at' l i.toNat),o++[i],d.set i.toNat true)) (by omega) (fun i hi=> ?_) ?_
 ·have ha:=Q0 hp hs (hx _ (at_mem hi))
  have ha':lJ ⟨p.buses,p.sources,p.links,p.racks⟩ ⟨c,s.locked,s.badLink,s.on_,s.badSource,s.earthed,s.badBus⟩ (at' l i)=some (bif JS p (lm s c) (at' l i)then(FQ (lm s c) (at' l i),true)else(lm s c,false)):=ha
  unfold iW
  rw [KV (by omega),cond_true,aA (by omega),aA (by omega),Int.toNat_natCast,wr (by omega),ha']
  cases at' d i with
  |true=>rfl
  |false=>
   cases JS p (lm s c) (at' l i)with
   |false=>rfl
   |true=>
    rw [cond_false,Option.bind_some]
    rw [cond_true,aA (by omega)]
    unfold lq
    rw [aA ⟨by rw [List.length_singleton];omega,by rw [List.length_singleton];omega⟩]
    rfl
 ·unfold iW
  rw [RU (by omega)];rfl
theorem Bj {s:State} {c:List Bool} (hs:VS p (lm s c)) {o:List Int} {d:List Bool} (hd:d.length=l.length) (ho:o.length≤1000):
  iX l p.buses p.sources p.links p.racks s (c,o,d)=some (match sF p (lm s c) l d with|some i=> .next (FJ (lm s c) (at' l i),o++[(i:Int)],d.set i true)|none=> .done (.brk (c,o))):=by
 unfold iX
 dsimp only
 rw [IZ hp hl hx hs hd ho]
 cases sF p (lm s c) l d<;>rfl
theorem Dg (s:State): ∀(n:Nat) (c:List Bool) (o:List Int) (d:List Bool),VS p (lm s c)→d.length=l.length→cntF d≤n→o.length+n≤1000→
  aD (iX l p.buses p.sources p.links p.racks s) (n+1) (c,o,d)=some (.brk ((A8 p l n (lm s c) o d).1.closed,(A8 p l n (lm s c) o d).2.1))
 |0,c,o,d,hs,hd,hn,ho=>by
  rw [bE,Bj hp hl hx hs hd (by omega)]
  cases h:sF p (lm s c) l d with
  |none=>rfl
  |some i=>
   obtain⟨h1,h2,_⟩:=rW h
   have:=xB d i (by omega) h2
   omega
 |n+1,c,o,d,hs,hd,hn,ho=>by
  rw [bE,Bj hp hl hx hs hd (by omega)]
  unfold A8
  cases h:sF p (lm s c) l d with
  |none=>rfl
  |some i=>
   obtain⟨h1,h2,_⟩:=rW h
   have:=xB d i (by omega) h2
   exact Dg s n _ _ _ (hs.new (hx _ (at_mem h1))) (by rw [List.length_set];exact hd) (by omega) (by rw [List.length_append,List.length_singleton];omega)
end
theorem EX (p:aC) (l:List Transfer) (s:State): ∀(n:Nat) (c:List Bool) (o:List Int) (d:List Bool),(A8 p l n (lm s c) o d).1=lm s (A8 p l n (lm s c) o d).1.closed
 |0,_,_,_=>rfl
 |n+1,c,o,d=>by
  unfold A8
  cases sF p (lm s c) l d with
  |none=>rfl
  |some i=>exact EX p l s n _ _ _
def zH (p:aC) (s:State) (l:List Transfer):State × List Int × List Bool:=A8 p l l.length s [] (List.replicate l.length false)
theorem Lb (s:State) (h:GI s):nT s=some s:=by
 obtain⟨h0,h1,h2,h3,h4,h5,h6⟩:=h
 unfold nT
 rw [gY _ h0,gY _ h1,gY _ h2,gY _ h3,gY _ h4,gY _ h5,gY _ h6]
 rfl
def noS:State:=⟨[],[],[],[],[],[],[]⟩
theorem GD (p:aC) (s:State) (l:List Transfer) (hp:Small p) (hl:l.length≤9223372036854775807):
  jd p s l=some (if RL p s l=0 then((zH p s l).1,(zH p s l).2.1,0)else(noS,[],RL p s l)):=by
 unfold jd
 rw [Kc p s l hp hl,Option.bind_some]
 by_cases h0:RL p s l=0
 ·obtain⟨hv,hs,h16,hx⟩:=yt.1 h0
  rw [decide_eq_true h0,Bool.not_true,cond_false,Lb s (hs.room hv),Option.bind_some,if_pos h0]
  unfold nM
  rw [Option.bind_some]
  dsimp only
  unfold oq
  rw [aA ⟨by omega,by omega,by omega⟩,Option.bind_some,Int.toNat_natCast]
  have key:=Dg hv h16 hx s l.length s.closed [] (List.replicate l.length false) hs (by simp) (by have:=M5 (List.replicate l.length false);rw [List.length_replicate]at this;exact this) (by simp;omega)
  rw [l8 key (by unfold FUEL;omega),Option.bind_some,Option.bind_some]
  congr 2
  exact(EX p l s l.length s.closed [] (List.replicate l.length false)).symm
 ·rw [decide_eq_false h0,if_neg h0];rfl
structure SI (p:aC) (s0:State) (l:List Transfer) (s:State) (o:List Int) (d:List Bool):Prop where
 vs:VS p s
 earth:s.earthed=s0.earthed
 live: ∀b:Nat,(b:Int)<p.buses→rQ p s0 b→rQ p s b
 dead: ∀b:Nat,(b:Int)<p.buses→rQ p s b→at' s0.earthed b=true→rQ p s0 b
 clash: ∀c,c∈MK p s→c∈MK p s0
 dl:d.length=l.length
 ord: ∀i,i<l.length→(at' d i=true↔(i:Int)∈o)
 rng: ∀x∈o,∃i:Nat,x=(i:Int)∧i<l.length
 nodup:o.Nodup
 watch: ∀i:Nat,i<l.length→(i:Int)∈o→rQ p s (at' l i).watch.toNat
section
variable {p:aC} {s0:State} {l:List Transfer} (hp:VP p) (hx: ∀x∈l,RO p x)
include hp hx
omit hx in
theorem OC {s t:State} {x:Transfer} (hs:VS p s) (ht:VS p t) (h:J8 p s t x=true):(∀b:Nat,(b:Int)<p.buses→rQ p s b→rQ p t b)∧(∀b:Nat,(b:Int)<p.buses→rQ p t b→at' s.earthed b=true→rQ p s b)∧at' (iT p t) x.watch.toNat=true∧ ∀c,c∈MK p t→c∈MK p s:=by
 unfold J8 at h
 simp only [Bool.and_eq_true,Bool.not_eq_true']at h
 obtain⟨h1,h2,h3⟩:=h
 have l1:=uG hp hs;have l2:=uG hp ht
 have hu: ∀b:Nat,(b:Int)<p.buses→Db (iT p s) (iT p t) s.earthed b=false:=fun b hb=>by
  have:=List.any_eq_false.1 h1 b (List.mem_range.2 (by omega))
  simpa using this
 refine⟨fun b hb hL=> ?_,fun b hb hA hE=> ?_,h2,fun c hc=> ?_⟩
 ·have:=hu b hb
  rw [←xK hp hs hb]at hL
  rw [←xK hp ht hb]
  unfold Db at this
  rw [hL]at this
  cases hA:at' (iT p t) b with
  |true=>rfl
  |false=>rw [hA]at this;cases this
 ·have:=hu b hb
  rw [←xK hp ht hb]at hA
  rw [←xK hp hs hb]
  unfold Db at this
  rw [hA,hE]at this
  cases hL:at' (iT p s) b with
  |true=>rfl
  |false=>rw [hL]at this;cases this
 ·have:=List.any_eq_false.1 h3 c hc
  simp only [Bool.not_eq_true,Bool.not_eq_false']at this
  obtain⟨y,hy,e⟩:=List.any_eq_true.1 this
  rw [SH.1 e];exact hy
theorem SI.step {s:State} {o:List Int} {d:List Bool} (g:SI p s0 l s o d) {i:Nat} (hn:sF p s l d=some i):SI p s0 l (FQ s (at' l i)) (o++[(i:Int)]) (d.set i true):=by
 obtain⟨hi,hd,hc⟩:=rW hn
 have hxi:=hx _ (at_mem hi)
 have hvn:=g.vs.new hxi
 unfold JS at hc
 simp only [Bool.and_eq_true]at hc
 obtain⟨t1,t2,t3,t4⟩:=OC hp g.vs hvn hc.2.2
 have hno:(i:Int) ∉ o:=fun h=>by rw [(g.ord i hi).2 h]at hd;cases hd
 refine⟨hvn,g.earth,fun b hb h=>t1 b hb (g.live b hb h),fun b hb h he=>g.dead b hb (t2 b hb h (by rw [g.earth];exact he)) he,fun c hc=>g.clash c (t4 c hc),by rw [List.length_set];exact g.dl,fun j hj=> ?_,fun x hx=> ?_, ?_,fun j hj hm=> ?_⟩
 ·rw [List.mem_append,List.mem_singleton,←g.ord j hj]
  have hdl:=g.dl
  by_cases e:i=j
  ·subst e;rw [dw (by omega)];simp
  ·rw [bT e]
   exact⟨.inl,fun h=>h.elim id fun h=>absurd (by omega) e⟩
 ·rcases List.mem_append.1 hx with h|h
  ·exact g.rng x h
  ·exact⟨i,List.mem_singleton.1 h,hi⟩
 ·rw [List.nodup_append]
  exact⟨g.nodup,by simp,fun a ha b hb e=>by rw [List.mem_singleton]at hb;subst hb;subst e;exact hno ha⟩
 ·have hw: ∀j,j<l.length→0≤(at' l j).watch∧(at' l j).watch<p.buses:=fun j hj=>(hx _ (at_mem hj)).watch
  have:=hw j hj
  rcases List.mem_append.1 hm with h|h
  ·exact t1 _ (by omega) (g.watch j hj h)
  ·have e:j=i:=by have:=List.mem_singleton.1 h;omega
   subst e
   exact(xK hp hvn (by omega)).1 t3
theorem SI.run: ∀(n:Nat) {s:State} {o:List Int} {d:List Bool},SI p s0 l s o d→cntF d≤n→SI p s0 l (A8 p l n s o d).1 (A8 p l n s o d).2.1 (A8 p l n s o d).2.2∧sF p (A8 p l n s o d).1 l (A8 p l n s o d).2.2=none
 |0,s,o,d,g,hn=>by
  refine⟨g, ?_⟩
  show sF p s l d=none
  cases h:sF p s l d with
  |none=>rfl
  |some i=>
   obtain⟨h1,h2,_⟩:=rW h
   have:=xB d i (by rw [g.dl];exact h1) h2
   omega
 |n+1,s,o,d,g,hn=>by
  unfold A8
  cases h:sF p s l d with
  |none=>exact⟨g,h⟩
  |some i=>
   obtain⟨h1,h2,_⟩:=rW h
   have:=xB d i (by rw [g.dl];exact h1) h2
   exact SI.run n (g.step hp hx h) (by omega)
omit hx in
theorem SI.init (hs:VS p s0):SI p s0 l s0 [] (List.replicate l.length false):=
 ⟨hs,rfl,fun _ _ h=>h,fun _ _ h _=>h,fun _ h=>h,by simp,fun i hi=>by rw [tH hi];simp,fun _ h=>(by cases h),List.nodup_nil,fun _ _ h=>(by cases h)⟩
theorem QR (hs:VS p s0):SI p s0 l (zH p s0 l).1 (zH p s0 l).2.1 (zH p s0 l).2.2∧sF p (zH p s0 l).1 l (zH p s0 l).2.2=none:=
 SI.run hp hx l.length (SI.init hp hs) (by have:=M5 (List.replicate l.length false);rw [List.length_replicate]at this;exact this)
end
theorem Nn {p:aC} {s:State} {l:List Transfer} (hp:VP p) (hs:VS p s) (hl:l.length≤16) (hx: ∀x∈l,RO p x):jd p s l=some ((zH p s l).1,(zH p s l).2.1,0):=by
 rw [GD p s l hp.small (by omega),if_pos (yt.2 ⟨hp,hs,hl,hx⟩)]
def partsOf (p:aC):List Part:=tab p.buses.toNat (fun b=> ⟨1,(b:Int)⟩)++tab p.sources.length (fun b=> ⟨2,(b:Int)⟩)++tab p.links.length (fun b=> ⟨3,(b:Int)⟩)
theorem QG (p:aC) (t n:Nat) (ht:t<3) (hn:at' [p.buses,(p.sources.length:Int),(p.links.length:Int)] t=(n:Int)) (hn2:n≤1000) (out:List Part) (ho:out.length≤10000):aD (iZ p (t:Int)) FUEL (out,0)=some (.brk (out++tab n fun b=> ⟨(t:Int)+1,(b:Int)⟩)):=by
 have e0:out=out++tab 0 fun b=>(⟨(t:Int)+1,(b:Int)⟩:Part):=by simp [tab]
 have key:aD (iZ p (t:Int)) FUEL (out++tab 0 (fun b=>(⟨(t:Int)+1,(b:Int)⟩:Part)),((0:Nat):Int))=some (.brk (out++tab n fun b=> ⟨(t:Int)+1,(b:Int)⟩)):=by
  refine bO (fun k=>(out++tab k (fun b=>(⟨(t:Int)+1,(b:Int)⟩:Part)),(k:Int))) n _ (fuel_lt (by omega)) (fun k hk=> ?_) ?_
  ·unfold iZ
   dsimp only
   rw [Int.toNat_natCast,hn,KV (by omega),cond_true,aA ⟨by rw [List.length_append,kR,List.length_singleton];omega,by rw [List.length_append,kR,List.length_singleton];omega⟩,wr (x:=(k:Int)+1) (by omega),wr (x:=(t:Int)+1) (by omega),MF,List.append_assoc]
   rfl
  ·unfold iZ
   dsimp only
   rw [Int.toNat_natCast,hn,RU (by omega)];rfl
 rw [←e0]at key
 exact key
section
variable {p:aC} (hp:VP p)
include hp
theorem parts_eq:oO p=some (partsOf p,0):=by
 have hb:=hp.b;have hsl:=hp.sl;have hll:=hp.ll
 unfold oO
 rw [JM p hp.small,xX.mpr hp,Option.bind_some,decide_eq_true rfl,Bool.not_true,cond_false]
 have key:aD (gL p) FUEL ([],0)=some (.brk (partsOf p)):=by
  refine l8 (n:=4) ?_ (by unfold FUEL;omega)
  have r: ∀(t n:Nat) (out:List Part),t<3→at' [p.buses,(p.sources.length:Int),(p.links.length:Int)] t=(n:Int)→n≤1000→out.length≤10000→gL p (out,(t:Int))=some (.next (out++tab n (fun b=> ⟨(t:Int)+1,(b:Int)⟩),((t+1:Nat):Int))):=fun t n out ht hn hn2 ho=>by
   unfold gL
   dsimp only
   have hl3:([p.buses,(p.sources.length:Int),(p.links.length:Int)].length:Int)=3:=rfl
   rw [KV (by rw [hl3];omega),cond_true,aA ⟨by omega,by rw [hl3];omega⟩,QG p t n ht hn hn2 out ho]
   simp only [Option.bind_some]
   rw [wr (by omega)];rfl
  have r0:gL p ([],0)=_:=r 0 p.buses.toNat [] (by omega) (by show p.buses=_;omega) (by omega) (by simp)
  rw [bE,r0]
  show aD _ 3 (([]++tab p.buses.toNat (fun b=>(⟨((0:Nat):Int)+1,(b:Int)⟩:Part))),((1:Nat):Int))=_
  rw [bE,r 1 p.sources.length _ (by omega) rfl (by omega) (by simp [kR];omega)]
  show aD _ 2 (_,((2:Nat):Int))=_
  rw [bE,r 2 p.links.length _ (by omega) rfl (by omega) (by simp [kR];omega)]
  show aD _ 1 (_,((3:Nat):Int))=_
  rw [bE]
  unfold gL
  dsimp only
  rw [decide_eq_false (by show ¬ ((3:Nat):Int)<3;omega),cond_false]
  rfl
 rw [key];rfl
theorem Mj {i:Nat} (hi:i<(partsOf p).length): ∃(c j:Nat),at' (partsOf p) i=⟨(c:Int),(j:Int)⟩∧((c=1∧(j:Int)<p.buses)∨(c=2∧j<p.sources.length)∨(c=3∧j<p.links.length)):=by
 have hb:=hp.b
 have hm:=at_mem hi
 unfold partsOf at hm
 rw [List.mem_append,List.mem_append]at hm
 have mt: ∀{n:Nat} {f:Nat→Part} {x:Part},x∈tab n f→ ∃j,j<n∧x=f j:=fun{n f x} h=>by
  obtain⟨j,hj,e⟩:=List.mem_map.1 h
  exact⟨j,List.mem_range.1 hj,e.symm⟩
 rcases hm with(h|h)|h
 ·obtain⟨j,hj,e⟩:=mt h
  exact⟨1,j,e, .inl ⟨rfl,by omega⟩⟩
 ·obtain⟨j,hj,e⟩:=mt h
  exact⟨2,j,e, .inr (.inl ⟨rfl,hj⟩)⟩
 ·obtain⟨j,hj,e⟩:=mt h
  exact⟨3,j,e, .inr (.inr ⟨rfl,hj⟩)⟩
end
def Hf:ah:=(fQ.bind gI).getD default
def YZ:ah:=⟨Hf.plant,Hf.state,Hf.transfers,Hf.jobs,Hf.people,true⟩
theorem UK:(fQ.bind gI).isSome=true:=by kernel_rfl
theorem Xe: ∃a,fQ=some a∧gI a=some Hf:=by
 have h:=UK
 cases ha:fQ with
 |none=>rw [ha]at h;cases h
 |some a=>
  refine⟨a,rfl, ?_⟩
  cases hb:gI a with
  |none=>rw [ha]at h;simp only [Option.bind_some,hb]at h;cases h
  |some b=>
   have:Hf=b:=by unfold Hf;rw [ha,Option.bind_some,hb];rfl
   rw [this]
theorem VX:gX Hf=some ([[0,1]],0):=by
 have h1:dL Hf=some 0:=by kernel_rfl
 have h2:bY Hf=some [(0,true),(1,true),(2,true),(3,false)]:=by kernel_rfl
 have h3:aD (gK Hf [(0,true),(1,true),(2,true),(3,false)]) FUEL ([],1)=some (.brk [[0,1]]):=by kernel_rfl
 have h4:bP [[0,1]]=some [[0,1]]:=by
  unfold bP
  rw [List.mergeSort_singleton];rfl
 unfold gX
 rw [h1,Option.bind_some,decide_eq_true rfl,Bool.not_true,cond_false,h2,Option.bind_some,h3,Option.bind_some]
 simp only
 rw [h4,Option.bind_some,aA rfl]
theorem S9:gX YZ=some ([[0],[1]],0):=by
 have h1:dL YZ=some 0:=by kernel_rfl
 have h2:bY YZ=some [(0,true),(1,false),(2,false),(3,false)]:=by kernel_rfl
 have h3:aD (gK YZ [(0,true),(1,false),(2,false),(3,false)]) FUEL ([],1)=some (.brk [[0],[1]]):=by kernel_rfl
 have h4:bP [[0],[1]]=some [[0],[1]]:=by
  unfold bP
  rw [List.mergeSort_of_pairwise (by decide)];rfl
 unfold gX
 rw [h1,Option.bind_some,decide_eq_true rfl,Bool.not_true,cond_false,h2,Option.bind_some,h3,Option.bind_some]
 simp only
 rw [h4,Option.bind_some,aA rfl]
theorem TQ:eG Hf [0,1]=some (false,0):=by kernel_rfl
theorem TH:oW Hf=some ([0,2],0):=by kernel_rfl
theorem VQ:tQ Hf [0,2]=some (5,0):=by kernel_rfl
theorem LX:jM=some true:=by
 obtain⟨a,ha,hb⟩:=Xe
 have w:gX (⟨Hf.plant,Hf.state,Hf.transfers,Hf.jobs,Hf.people,true⟩:ah)=some ([[0],[1]],0):=S9
 unfold jM
 rw [ha,Option.bind_some,hb,Option.bind_some,TQ,Option.bind_some,TH,Option.bind_some,VX,Option.bind_some,VQ,Option.bind_some,w,Option.bind_some,hb]
 refine Eq.trans ?_ (rfl:some true=some true)
 kernel_rfl
theorem yO {ρ:Type} {body:Int→Option (aU Int (Ex Unit ρ))} (n:Nat) (hn:n≤1000000000000000000) (G:Nat→Prop) (Bad:ρ→Prop)
  (h: ∀i:Nat,i<n→(body (i:Int)=some (.next ((i:Int)+1))∧G i)∨ ∃e,body (i:Int)=some (.done (.ret e))∧Bad e)
  (he:body (n:Int)=some (.done (.brk ()))):(aD body FUEL 0=some (.brk ())∧ ∀i:Nat,i<n→G i)∨ ∃e,aD body FUEL 0=some (.ret e)∧Bad e:=by
 have aux: ∀(m i N:Nat),i+m=n→m<N→(aD body N (i:Int)=some (.brk ())∧ ∀j:Nat,i≤j→j<n→G j)∨ ∃e,aD body N (i:Int)=some (.ret e)∧Bad e:=by
  intro m
  induction m with
  |zero=>
   intro i N hi hN
   obtain⟨N,rfl⟩: ∃M,N=M+1:=⟨N - 1,by omega⟩
   have:i=n:=by omega
   subst this
   left
   rw [bE,he]
   exact⟨rfl,fun j h1 h2=>by omega⟩
  |succ m ih=>
   intro i N hi hN
   obtain⟨N,rfl⟩: ∃M,N=M+1:=⟨N - 1,by omega⟩
   rw [bE]
   rcases h i (by omega)with⟨hb,hg⟩|⟨e,hb,hx⟩
   ·rw [hb]
    rcases ih (i+1) N (by omega) (by omega)with⟨h1,h2⟩|h1
    ·left
     refine⟨h1,fun j j1 j2=> ?_⟩
     by_cases e:j=i
     ·subst e;exact hg
     ·exact h2 j (by omega) j2
    ·right;exact h1
   ·right
    rw [hb]
    exact⟨e,rfl,hx⟩
 rcases aux n 0 FUEL (by omega) (by unfold FUEL;omega)with⟨h1,h2⟩|h1
 ·exact .inl ⟨h1,fun i hi=>h2 i (by omega) hi⟩
 ·exact .inr h1
theorem yu {ρ:Type} {body:Int→Option (aU Int (Ex Unit ρ))} (n:Nat) (hn:n≤1000000000000000000) (h: ∀i:Nat,i<n→body (i:Int)=some (.next ((i:Int)+1))∨ ∃e,body (i:Int)=some (.done (.ret e)))
  (he:body (n:Int)=some (.done (.brk ()))): ∃o,aD body FUEL 0=some o:=by
 rcases yO n hn (fun _=>True) (fun _=>True) (fun i hi=>(h i hi).imp (fun a=> ⟨a,trivial⟩) fun⟨e,a⟩=> ⟨e,a,trivial⟩) he with⟨a,_⟩|⟨e,a,_⟩
 ·exact⟨_,a⟩
 ·exact⟨_,a⟩
theorem Gu (l:List Part) (v:Part) (hl:l.length≤1000000000000000000): ∃b,fF l v=some b:=by
 unfold fF nN
 obtain⟨o,ho⟩:=yu (body:=iI l v) l.length hl (fun i hi=>by
  unfold iI
  simp only [Int.toNat_natCast]
  rw [KV (by omega),cond_true,aA (by omega),wr (by omega)]
  cases hc:((decide (v.kind=(at' l i).kind)) && ((decide (v.index=(at' l i).index)) && true))with
  |true=>first|exact .inr ⟨_,by rw [hc];rfl⟩|exact .inr ⟨_,rfl⟩
  |false=>first|exact .inl (by rw [hc];rfl)|exact .inl rfl) (by
  unfold iI
  rw [decide_eq_false (by omega)];rfl)
 rw [ho]
 cases o<;>exact⟨_,rfl⟩
theorem Lf (l:List Int) (i:Int) (hl:l.length≤1000000000000000000): ∃b,fe l i=some b:=by
 unfold fe jP
 obtain⟨o,ho⟩:=yu (body:=fo l i) l.length hl (fun k hk=>by
  unfold fo rM
  simp only [Int.toNat_natCast]
  rw [KV (by omega),cond_true,Option.bind_some,aA (by omega),wr (by omega)]
  generalize (bif decide (at' l k<0)then true else decide (i≤at' l k))=b
  cases b
  ·exact .inl rfl
  ·exact .inr ⟨_,rfl⟩) (by
  unfold fo
  rw [decide_eq_false (by omega)];rfl)
 rw [ho]
 cases o<;>exact⟨_,rfl⟩
theorem Pv (a b:Bool):(bif a then b else false)=(a && b):=by cases a<;>rfl
theorem Ov {α:Type} (X c:Bool) (d:Bool): ∃b,(bif gB [(X,true)]then some c else some d).bind (fun r_1=>some (bif X then(!r_1)else false))=some b∧(b=true→X=true):=by
 cases X<;>cases c<;>simp [gB]
theorem Rh (y:ah) {i:Nat} (hi:i<y.jobs.length) (hj:y.jobs.length≤8) (h1:(at' y.jobs i).parts.length≤1000000000000000) (h2:(at' y.jobs i).after.length≤1000000000000000):
  ∃b,qw y (i:Int)=some b∧(b=true→(at' y.jobs i).parts.length≤8∧1≤(at' y.jobs i).people∧(at' y.jobs i).people≤20):=by
 unfold qw
 rw [aA (by omega)]
 rcases yO (body:=lX y (i:Int)) (at' y.jobs i).parts.length (by omega) (fun _=>True) (fun e=>e=false) (fun k hk=>by
  unfold lX
  simp only [Int.toNat_natCast]
  obtain⟨b,hb⟩:=Gu (Au (at' y.jobs i).parts 0 k) (at' (at' y.jobs i).parts k) (by rw [fD];omega)
  rw [KV (by omega),cond_true,aA (by omega),hb,Option.bind_some,aA (by omega),wr (by omega)]
  cases b
  ·exact .inl ⟨rfl,trivial⟩
  ·exact .inr ⟨_,rfl,rfl⟩) (by
  unfold lX
  simp only [Int.toNat_natCast]
  rw [decide_eq_false (by omega)];rfl)with⟨ho,_⟩|⟨e,ho,he⟩
 ·rw [ho]
  simp only [Option.bind_some,Int.toNat_natCast]
  obtain⟨c,hc⟩:=Lf (at' y.jobs i).after (i:Int) (by omega)
  rw [hc]
  refine(Ov (α:=Unit) _ c _).imp fun b ⟨a1,a2⟩=> ⟨a1,fun hb=> ?_⟩
  have h:=a2 hb
  simp only [Pv,Bool.and_eq_true,decide_eq_true_eq]at h
  exact⟨by omega,by omega,by omega⟩
 ·rw [ho,he]
  exact⟨false,rfl,fun h=>by cases h⟩
structure Yd (y:ah):Prop where
 vp:VP y.plant
 vs:VS y.plant y.state
 tl:y.transfers.length≤16
 tr: ∀x∈y.transfers,RO y.plant x
 jl:y.jobs.length≤5
 job: ∀i,i<y.jobs.length→(at' y.jobs i).parts.length≤8∧(1≤(at' y.jobs i).people∧(at' y.jobs i).people≤20)∧ ∀x∈(at' y.jobs i).parts,uw y.plant x
section
variable {p:aC} {s:State} (hp:VP p) (hs:VS p s)
include hp hs
theorem PO (x:Part):(uw p x∧gH p s x=some (wB s x true,0))∨ ∃u,gH p s x=some (u,14):=by
 by_cases hx:uw p x
 ·left
  refine⟨hx, ?_⟩
  unfold gH
  rw [GH hp hs hx];rfl
 ·right
  have hb:=hp.b;have hsl:=hp.sl;have hll:=hp.ll
  have h7:=hs.badBus;have h3:=hs.badLink;have h5:=hs.badSource
  obtain⟨c,j⟩:=x
  have hx': ¬ (0≤j∧(c=1∧j<p.buses∨c=2∧j<(p.sources.length:Int)∨c=3∧j<(p.links.length:Int))):=hx
  unfold gH jg
  rw [lI p s hp.small,mJ.mpr ⟨hp,hs⟩,Option.bind_some,decide_eq_true rfl,Bool.not_true,cond_false,GJ s (hs.room hp),Option.bind_some]
  dsimp only
  have ef: ∀{a b:Int},a≠b→bM a b=false:=fun{a b} h=>by unfold bM;rw [decide_eq_false h];rfl
  have et: ∀{a b:Int},a=b→bM a b=true:=fun{a b} h=>by unfold bM;rw [decide_eq_true h];rfl
  have wf: ∀{n a b:Int}, ¬ (a≤n∧n≤b)→wi n a b=false:=fun{n a b} h=>by
   cases hw:wi n a b with
   |false=>rfl
   |true=>exact absurd (tF.mp hw) h
  by_cases c1:c=1
  ·rw [et c1,cond_true,iE,Option.bind_some,wr (by omega),wf (by omega)]
   exact⟨_,rfl⟩
  rw [ef c1,cond_false]
  by_cases c2:c=2
  ·rw [et c2,cond_true,iE,Option.bind_some,wr (by omega),wf (by omega)]
   exact⟨_,rfl⟩
  rw [ef c2,cond_false]
  by_cases c3:c=3
  ·rw [et c3,cond_true,iE,Option.bind_some,wr (by omega),wf (by omega)]
   exact⟨_,rfl⟩
  rw [ef c3,cond_false,iE,Option.bind_some,wf (by omega)]
  exact⟨_,rfl⟩
end
theorem Pe (y:ah) (hp:Small y.plant) (ht:y.transfers.length≤20) (hj:y.jobs.length≤8) (hb: ∀i,i<y.jobs.length→(at' y.jobs i).parts.length≤1000000000000000∧(at' y.jobs i).after.length≤1000000000000000):
  ∃e,dL y=some e∧(e=0→Yd y):=by
 unfold dL
 rw [GD _ _ _ hp (by omega),Option.bind_some]
 by_cases h0:RL y.plant y.state y.transfers=0
 ·obtain⟨hv,hs,h16,hx⟩:=yt.1 h0
  rw [if_pos h0]
  simp only [decide_true,Bool.not_true,cond_false]
  by_cases h5:5<y.jobs.length
  ·rw [decide_eq_true (by omega),cond_true]
   exact⟨2,rfl,fun h=>by cases h⟩
  ·rw [decide_eq_false (by omega),cond_false]
   rcases yO (body:=lQ y) y.jobs.length (by omega) (fun i=>(at' y.jobs i).parts.length≤8∧(1≤(at' y.jobs i).people∧(at' y.jobs i).people≤20)∧ ∀x∈(at' y.jobs i).parts,uw y.plant x) (fun e=>e≠0) (fun i hi=>by
    obtain⟨g1,g2⟩:=hb i hi
    obtain⟨r,hr,hr2⟩:=Rh y hi hj g1 g2
    unfold lQ
    rw [KV (by omega),cond_true,aA (by omega),hr,Option.bind_some]
    cases r with
    |false=>exact .inr ⟨120,rfl,by decide⟩
    |true=>
     obtain⟨k1,k2,k3⟩:=hr2 rfl
     rw [Bool.not_true,cond_false]
     rcases yO (body:=lU y (i:Int)) (at' y.jobs i).parts.length (by omega) (fun k=>uw y.plant (at' (at' y.jobs i).parts k)) (fun e=> ∃q:Int,e= .done (.ret q)∧q≠0) (fun k hk=>by
      unfold lU
      simp only [Int.toNat_natCast]
      rw [KV (by omega),cond_true,aA (by omega),wr (by omega)]
      rcases PO hv hs (at' (at' y.jobs i).parts k)with⟨a,b⟩|⟨u,b⟩
      ·rw [b];exact .inl ⟨rfl,a⟩
      ·rw [b];exact .inr ⟨_,rfl,14,rfl,by decide⟩) (by
      unfold lU
      simp only [Int.toNat_natCast]
      rw [decide_eq_false (by omega)];rfl)with⟨ho,hg⟩|⟨e,ho,q,he,hq⟩
     ·rw [ho,Option.bind_some,wr (by omega)]
      refine .inl ⟨rfl,k1,⟨k2,k3⟩,fun x hx=> ?_⟩
      obtain⟨k,hk,e⟩:=iY hx
      rw [←e];exact hg k hk
     ·rw [ho,he]
      exact .inr ⟨q,rfl,hq⟩) (by
    unfold lQ
    rw [decide_eq_false (by omega)];rfl)with⟨ho,hg⟩|⟨e,ho,he⟩
   ·rw [ho]
    simp only [Option.bind_some]
    cases(bif decide (y.people<0)then true else decide (1000<y.people))with
    |true=>exact⟨1,rfl,fun h=>by cases h⟩
    |false=>exact⟨0,rfl,fun _=> ⟨hv,hs,h16,hx,by omega,hg⟩⟩
   ·rw [ho]
    exact⟨e,rfl,fun h=>absurd h he⟩
 ·rw [if_neg h0]
  simp only
  rw [decide_eq_false h0]
  exact⟨_,rfl,fun h=>absurd h h0⟩
theorem Tt:((List.range 32).all fun s=>(List.range 5).all fun i=>eD (s:Int) (i:Int)==some (s.testBit i))=true:=by kernel_rfl
theorem has_eq {s i:Nat} (hs:s<32) (hi:i<5):eD (s:Int) (i:Int)=some (s.testBit i):=by
 have h:=List.all_eq_true.mp (List.all_eq_true.mp Tt s (List.mem_range.mpr hs)) i (List.mem_range.mpr hi)
 exact eq_of_beq h
theorem Ic {s J n:Nat} (h:s<2 ^ J) (hb:s.testBit n=true):n<J:=by
 by_cases hn:n<J
 ·exact hn
 ·have:s.testBit n=false:=Nat.testBit_lt_two_pow (Nat.lt_of_lt_of_le h (Nat.pow_le_pow_right (by decide) (by omega)))
  rw [this]at hb;cases hb
def vX (y:ah) (s:Nat):Nat→List Part
 |0=>[]
 |n+1=>if s.testBit n=true then vX y s n++(at' y.jobs n).parts else vX y s n
section
variable {y:ah} (Y:Yd y) {s:Nat} (hs:s<32) (hJ:s<2 ^ y.jobs.length)
include Y hs hJ
omit hs in
theorem AJ: ∀n:Nat,(vX y s n).length≤8*n∧ ∀x∈vX y s n,uw y.plant x
 |0=> ⟨by simp [vX],fun x hx=>by simp [vX]at hx⟩
 |n+1=>by
  obtain⟨h1,h2⟩:=AJ n
  unfold vX
  split
  ·rename_i hb
   obtain⟨j1,_,j2⟩:=Y.job n (Ic hJ hb)
   refine⟨by rw [List.length_append];omega,fun x hx=> ?_⟩
   rcases List.mem_append.1 hx with hx|hx
   ·exact h2 x hx
   ·exact j2 x hx
  ·exact⟨by omega,h2⟩
theorem LG:fP y (s:Int)=some (vX y s 5):=by
 have key:aD (dh (s:Int) y) FUEL (vX y s 0,((0:Nat):Int))=some (.brk (vX y s 5)):=by
  refine bO (body:=dh (s:Int) y) (fun n=>(vX y s n,(n:Int))) 5 _ (fuel_lt (by omega)) (fun n hn=> ?_) ?_
  ·have h1:=(AJ Y hJ n).1
   unfold dh
   simp only
   rw [decide_eq_true (by omega),cond_true,has_eq hs hn,Option.bind_some,wr (by omega)]
   show _=some (aU.next (vX y s (n+1),((n+1:Nat):Int)))
   rw [vX]
   cases hb:s.testBit n with
   |false=>rw [cond_false,if_neg (by decide)];rfl
   |true=>
    have hn:=Ic hJ hb
    obtain⟨j1,_,_⟩:=Y.job n hn
    unfold kP
    rw [cond_true,Int.toNat_natCast,aA ⟨by omega,by omega,by omega⟩,Option.bind_some,if_pos rfl];rfl
  ·unfold dh
   simp only
   rw [decide_eq_false (by omega)];rfl
 unfold fP dB kT
 rw [Option.bind_some,show aD (dh (s:Int) y) FUEL ([],0)=_ from key];rfl
def EA (y:ah) (s:Nat):Nat→Int
 |0=>0
 |n+1=>if s.testBit n=true then EA y s n+(at' y.jobs n).people else EA y s n
omit hs in
theorem Mw: ∀n:Nat,0≤EA y s n∧EA y s n≤20*n
 |0=>by simp [EA]
 |n+1=>by
  obtain⟨h1,h2⟩:=Mw n
  unfold EA
  split
  ·rename_i hb
   obtain⟨_,j1,_⟩:=Y.job n (Ic hJ hb)
   omega
  ·omega
theorem Nv: ∃b,jC y (s:Int)=some b:=by
 have key:aD (cZ (s:Int) y) FUEL (EA y s 0,((0:Nat):Int))=some (.brk (EA y s 5)):=by
  refine bO (body:=cZ (s:Int) y) (fun n=>(EA y s n,(n:Int))) 5 _ (fuel_lt (by omega)) (fun n hn=> ?_) ?_
  ·obtain⟨h1,h2⟩:=Mw Y hJ n
   unfold cZ
   simp only
   rw [decide_eq_true (by omega),cond_true,has_eq hs hn,Option.bind_some,wr (by omega)]
   show _=some (aU.next (EA y s (n+1),((n+1:Nat):Int)))
   rw [EA]
   cases hb:s.testBit n with
   |false=>rw [cond_false,if_neg (by decide)];rfl
   |true=>
    have hn:=Ic hJ hb
    obtain⟨_,j1,_⟩:=Y.job n hn
    unfold ja
    rw [cond_true,Int.toNat_natCast,aA (by omega),wr (by omega),Option.bind_some,if_pos rfl];rfl
  ·unfold cZ
   simp only
   rw [decide_eq_false (by omega)];rfl
 unfold jC dB kS
 rw [Option.bind_some,show aD (cZ (s:Int) y) FUEL (0,0)=_ from key]
 exact⟨_,rfl⟩
theorem QH: ∃b,j4 y (s:Int)=some b:=by
 have h1:=(AJ Y hJ 5).1
 unfold j4
 rw [LG Y hs hJ,Option.bind_some]
 obtain⟨o,ho⟩:=yu (body:=iM (vX y s 5)) (vX y s 5).length (by omega) (fun k hk=>by
  obtain⟨b,hb⟩:=Gu (Au (vX y s 5) 0 k) (at' (vX y s 5) k) (by rw [fD];omega)
  unfold iM
  simp only [Int.toNat_natCast]
  rw [KV (by omega),cond_true,aA (by omega),hb,Option.bind_some,aA (by omega),wr (by omega)]
  cases b
  ·exact .inl rfl
  ·exact .inr ⟨_,rfl⟩) (by
  unfold iM
  rw [decide_eq_false (by omega)];rfl)
 rw [ho]
 cases o<;>exact⟨_,rfl⟩
end
def wL (s:State) (parts:List Part):Nat→State
 |0=>s
 |n+1=>wB (wL s parts n) (at' parts n) true
theorem VS.wL {p:aC} {s:State} (hs:VS p s) (parts:List Part): ∀n,VS p (wL s parts n)
 |0=>hs
 |n+1=>VS.wB (VS.wL hs parts n) _ true
def XO (p:aC) (s:State) (l:List Transfer) (parts:List Part):State:=(zH p (wL s parts parts.length) l).1
section
variable {p:aC} {s:State} {l:List Transfer} (hp:VP p) (hs:VS p s) (hl:l.length≤16) (hx: ∀x∈l,RO p x)
include hp hs hl hx
omit hl in
theorem Vj (parts:List Part):VS p (XO p s l parts):=(QR hp hx (VS.wL hs parts _)).1.vs
theorem SL {parts:List Part} (hn:parts.length≤1000) (hi: ∀x∈parts,uw p x):oP p s l parts=some (XO p s l parts,0):=by
 have z:RL p s l=0:=yt.2 ⟨hp,hs,hl,hx⟩
 have hS:=VS.wL hs parts
 have z2: ∀n,RL p (wL s parts n) l=0:=fun n=>yt.2 ⟨hp,hS n,hl,hx⟩
 unfold oP
 rw [Kc p s l hp.small (by omega),Option.bind_some,decide_eq_true z,Bool.not_true,cond_false]
 have k1:=bO (body:=ji p parts) (fun n=>((wL s parts n).closed,(wL s parts n).locked,(wL s parts n).badLink,(wL s parts n).on_,(wL s parts n).badSource,(wL s parts n).earthed,(wL s parts n).badBus,(n:Int))) parts.length (.brk ((wL s parts parts.length).closed,(wL s parts parts.length).locked,(wL s parts parts.length).badLink,(wL s parts parts.length).on_,(wL s parts parts.length).badSource,(wL s parts parts.length).earthed,(wL s parts parts.length).badBus)) (fuel_lt (by omega)) (fun n hn'=>by
  unfold ji
  dsimp only
  rw [KV (by omega),cond_true,aA (by omega),Int.toNat_natCast]
  unfold gH
  have:=GH hp (hS n) (hi _ (at_mem hn')) true
  have this:jg p ⟨(wL s parts n).closed,(wL s parts n).locked,(wL s parts n).badLink,(wL s parts n).on_,(wL s parts n).badSource,(wL s parts n).earthed,(wL s parts n).badBus⟩ (at' parts n) true=_:=this
  rw [this,Option.bind_some,Option.bind_some,wr (by omega)];rfl) (by
  unfold ji
  dsimp only
  rw [RU (by omega)];rfl)
 rw [show aD (ji p parts) FUEL (s.closed,s.locked,s.badLink,s.on_,s.badSource,s.earthed,s.badBus,0)=_ from k1,Option.bind_some]
 simp only
 rw [show(⟨(wL s parts parts.length).closed,(wL s parts parts.length).locked,(wL s parts parts.length).badLink,(wL s parts parts.length).on_,(wL s parts parts.length).badSource,(wL s parts parts.length).earthed,(wL s parts parts.length).badBus⟩:State)=wL s parts parts.length from rfl,Nn hp (hS _) hl hx];rfl
end
section
variable {y:ah} (Y:Yd y)
include Y
theorem OY {parts:List Part} (hn:parts.length≤1000) (hi: ∀x∈parts,uw y.plant x) (least:Int): ∃b,jH y parts least=some b:=by
 have hrl:=Y.vp.rl
 have hv:=Vj Y.vp Y.vs Y.tr parts
 obtain⟨L,l1,l2,_⟩:=DY Y.vp hv
 unfold jH
 rw [SL Y.vp Y.vs Y.tl Y.tr hn hi,Option.bind_some,QM Y.vp hv l1 l2,Option.bind_some]
 obtain⟨o,ho⟩:=yu (body:=jF y least (tab y.plant.racks.length (LV y.plant L),0)) y.plant.racks.length (by omega) (fun k hk=>by
  unfold jF
  simp only [Int.toNat_natCast]
  rw [KV (by omega),cond_true,aA (by omega),aA ⟨fun _=>by rw [kR];omega,fun _=>by rw [kR];omega⟩,wr (by omega)]
  cases(bif (bif (decide (least≤((at' y.plant.racks k).paths)))then(!((at' (tab y.plant.racks.length (LV y.plant L)) k).e0))else false)then(!((at' (tab y.plant.racks.length (LV y.plant L)) k).e1))else false)
  ·exact .inl rfl
  ·exact .inr ⟨_,rfl⟩) (by
  unfold jF
  rw [decide_eq_false (by omega)];rfl)
 rw [ho]
 cases o<;>exact⟨_,rfl⟩
variable {s:Nat} (hs:s<32) (hJ:s<2 ^ y.jobs.length)
include hs hJ
theorem VJ: ∃b,lW y (s:Int)=some b:=by
 obtain⟨h1,h2⟩:=AJ Y hJ 5
 obtain⟨b,hb⟩:=OY Y (show(vX y s 5).length≤1000 by omega) h2 1
 unfold lW
 rw [LG Y hs hJ,Option.bind_some,hb]
 exact⟨_,rfl⟩
theorem IQ: ∃b,iy y (s:Int)=some b:=by
 unfold iy
 cases y.redundant with
 |false=>exact⟨_,rfl⟩
 |true=>
  obtain⟨h1,h2⟩:=AJ Y hJ 5
  have hb:=Y.vp.b;have hsl:=Y.vp.sl;have hll:=Y.vp.ll
  have v7:=Y.vs.badBus;have v3:=Y.vs.badLink;have v5:=Y.vs.badSource
  rw [Bool.not_true,cond_false,parts_eq Y.vp,Option.bind_some]
  have hpl:(partsOf y.plant).length≤1000:=by
   unfold partsOf;simp only [List.length_append,kR];omega
  obtain⟨o,ho⟩:=yu (body:=fq y (s:Int) (partsOf y.plant,0)) (partsOf y.plant).length (by omega) (fun k hk=>by
   obtain⟨c,j,e,hcj⟩:=Mj Y.vp hk
   have hpart:uw y.plant (at' (partsOf y.plant) k):=by
    rw [e]
    refine⟨by show(0:Int)≤(j:Int);omega, ?_⟩
    show(c:Int)=1∧(j:Int)<_∨(c:Int)=2∧(j:Int)<_∨(c:Int)=3∧(j:Int)<_
    omega
   obtain⟨b,hb2⟩:=OY Y (parts:=vX y s 5++[at' (partsOf y.plant) k]) (by rw [List.length_append,List.length_singleton];omega) (fun x hx=>by
    rcases List.mem_append.1 hx with hx|hx
    ·exact h2 x hx
    ·rw [List.mem_singleton]at hx;rw [hx];exact hpart) 2
   unfold fq
   simp only [Int.toNat_natCast]
   rw [KV (by omega),cond_true,aA (by omega),aA (by
    rw [e]
    simp only [Int.toNat_natCast]
    rcases hcj with⟨rfl,g⟩|⟨rfl,g⟩|⟨rfl,g⟩
    ·exact⟨by simp,by omega,by show(j:Int)<(y.state.badBus.length:Int);omega⟩
    ·exact⟨by simp,by omega,by show(j:Int)<(y.state.badSource.length:Int);omega⟩
    ·exact⟨by simp,by omega,by show(j:Int)<(y.state.badLink.length:Int);omega⟩),LG Y hs hJ,Option.bind_some,hb2,Option.bind_some,wr (by omega)]
   generalize (!(at' (at' [([]:List Bool),y.state.badBus,y.state.badSource,y.state.badLink] (at' (partsOf y.plant) k).kind.toNat) (at' (partsOf y.plant) k).index.toNat))=q
   cases q
   ·exact .inl rfl
   ·rw [cond_true,aA ⟨fun _=>by simp only [List.length_singleton];omega,fun _=>by simp only [List.length_singleton];omega⟩]
    cases b
    ·exact .inr ⟨_,rfl⟩
    ·exact .inl rfl) (by
   unfold fq
   simp only
   rw [decide_eq_false (by omega)];rfl)
  rw [ho]
  cases o<;>exact⟨_,rfl⟩
theorem PU: ∃b,dH y y y y (s:Int)=some b:=by
 obtain⟨b1,h1⟩:=Nv Y hs hJ
 obtain⟨b2,h2⟩:=QH Y hs hJ
 obtain⟨b3,h3⟩:=VJ Y hs hJ
 obtain⟨b4,h4⟩:=IQ Y hs hJ
 unfold dH j3 mr jX jW jY
 rw [h1,h2,h3,h4]
 cases b1<;>cases b2<;>cases b3<;>cases b4<;>exact⟨_,rfl⟩
end
def I5 (s i:Nat):Nat:=if s.testBit i=true then s - 2 ^ i else s
theorem Sr:((List.range 32).all fun s=>(List.range 5).all fun i=>decide ((IntKind.wrap .u8 (((BitVec.ofInt (IntKind.bits .u8) (s:Int) &&& ~~~ BitVec.ofInt (IntKind.bits .u8) (at' [(1:Int),2,4,8,16] i)).toNat:Int)))=(I5 s i:Int)))=true:=by kernel_rfl
theorem Vr {s i:Nat} (hs:s<32) (hi:i<5):(IntKind.wrap .u8 (((BitVec.ofInt (IntKind.bits .u8) (s:Int) &&& ~~~ BitVec.ofInt (IntKind.bits .u8) (at' [(1:Int),2,4,8,16] i)).toNat:Int)))=(I5 s i:Int):=
 of_decide_eq_true (List.all_eq_true.mp (List.all_eq_true.mp Sr s (List.mem_range.mpr hs)) i (List.mem_range.mpr hi))
theorem Cx {s i:Nat} (h:s.testBit i=true):I5 s i<s:=by
 unfold I5
 rw [if_pos h]
 have h1:2 ^ i≤s:=Nat.ge_two_pow_of_testBit h
 have h2:0<2 ^ i:=Nat.two_pow_pos i
 omega
theorem Ty:((List.range 32).all fun s=>decide (IntKind.wrap .u8 ((s:Int)+1)=((s+1:Nat):Int)))=true:=by kernel_rfl
theorem QE {s:Nat} (hs:s<32):IntKind.wrap .u8 ((s:Int)+1)=((s+1:Nat):Int):=of_decide_eq_true (List.all_eq_true.mp Ty s (List.mem_range.mpr hs))
theorem TM:((List.range 6).all fun J=>decide (IntKind.wrap .u8 ((1:Int)*2 ^ min (J:Int).toNat (IntKind.bits .u8))=((2 ^ J:Nat):Int)))=true:=by kernel_rfl
theorem Ii {J:Nat} (h:J≤5):IntKind.wrap .u8 ((1:Int)*2 ^ min (J:Int).toNat (IntKind.bits .u8))=((2 ^ J:Nat):Int):=of_decide_eq_true (List.all_eq_true.mp TM J (List.mem_range.mpr (by omega)))
theorem yC {J:Nat} (h:J≤5):1≤2 ^ J∧2 ^ J≤32:=⟨Nat.one_le_two_pow,Nat.pow_le_pow_right (n:=2) (by decide) h⟩
def okF (m:List (Int × Bool)) (s:Nat) (b0:Bool):Nat→Bool
 |0=>b0
 |n+1=>if s.testBit n=true then okF m s b0 n && (aS bM (I5 s n:Int) m).getD false else okF m s b0 n
theorem AX {m:List (Int × Bool)} {s:Nat} {b0:Bool}: ∀{n:Nat},okF m s b0 n=true↔b0=true∧ ∀i,i<n→s.testBit i=true→(aS bM (I5 s i:Int) m).getD false=true
 |0=> ⟨fun h=> ⟨h,fun i hi=>by omega⟩,fun h=>h.1⟩
 |n+1=>by
  unfold okF
  by_cases hb:s.testBit n=true
  ·rw [if_pos hb,Bool.and_eq_true,AX (n:=n)]
   constructor
   ·rintro ⟨⟨h1,h2⟩,h3⟩
    refine⟨h1,fun i hi ht=> ?_⟩
    by_cases e:i=n
    ·subst e;exact h3
    ·exact h2 i (by omega) ht
   ·rintro ⟨h1,h2⟩
    exact⟨⟨h1,fun i hi ht=>h2 i (by omega) ht⟩,h2 n (by omega) hb⟩
  ·rw [if_neg hb,AX (n:=n)]
   constructor
   ·rintro ⟨h1,h2⟩
    refine⟨h1,fun i hi ht=> ?_⟩
    by_cases e:i=n
    ·subst e;exact absurd ht hb
    ·exact h2 i (by omega) ht
   ·rintro ⟨h1,h2⟩
    exact⟨h1,fun i hi ht=>h2 i (by omega) ht⟩
theorem MB (m:List (Int × Bool)) {s:Nat} (hs:s<32) (b0:Bool):j6 (s:Int) m (s:Int) b0=some (okF m s b0 5):=by
 have key:aD (dS (s:Int) m (s:Int)) FUEL (okF m s b0 0,((0:Nat):Int))=some (.brk (okF m s b0 5)):=by
  refine bO (body:=dS (s:Int) m (s:Int)) (fun n=>(okF m s b0 n,(n:Int))) 5 _ (fuel_lt (by omega)) (fun n hn=> ?_) ?_
  ·unfold dS
   simp only
   rw [decide_eq_true (by omega),cond_true,has_eq hs hn,Option.bind_some,wr (by omega)]
   show _=some (aU.next (okF m s b0 (n+1),((n+1:Nat):Int)))
   rw [okF]
   cases hb:s.testBit n with
   |false=>rw [cond_false,if_neg (by decide)];rfl
   |true=>
    rw [cond_true,if_pos rfl]
    unfold jV dm
    cases okF m s b0 n with
    |false=>rfl
    |true=>
     rw [show gB [(true,true)]=true from rfl,cond_true,Option.bind_some,aA (fun _=>by omega)]
     simp only [Int.toNat_natCast,cond_true,Bool.true_and,Option.bind_some]
     rw [Vr hs hn];rfl
  ·unfold dS
   simp only
   rw [decide_eq_false (by omega)];rfl
 unfold j6
 rw [show aD (dS (s:Int) m (s:Int)) FUEL (b0,0)=_ from key];rfl
theorem Qp (m:List (Int × Bool)) {s:Nat} (hs:s<32) (b0:Bool):kN (s:Int) m (s:Int) b0=some (okF m s b0 5):=MB m hs b0
def cF (y:ah) (s:Nat):Bool:=(dH y y y y (s:Int)).getD false
def MP (y:ah):Nat→List (Int × Bool)
 |0=>[]
 |1=>dQ bM 0 true []
 |t+2=>dQ bM ((t+1:Nat):Int) (okF (MP y (t+1)) (t+1) true 5 && !cF y (t+1)) (MP y (t+1))
def BF (y:ah):Nat→Bool
 |0=>true
 |t+1=>okF (MP y (t+1)) (t+1) true 5 && !cF y (t+1)
theorem Mr (y:ah): ∀t k:Nat,aS bM (k:Int) (MP y (t+1))=if k<t+1 then some (BF y k)else none
 |0,k=>by
  unfold MP
  by_cases h:k=0
  ·subst h;rfl
  ·rw [if_neg (by omega),gG (by omega)];rfl
 |t+1,k=>by
  unfold MP
  by_cases h:k=t+1
  ·subst h;rw [if_pos (by omega),fG];rfl
  ·rw [gG (by omega),Mr y t k]
   by_cases h2:k<t+1
   ·rw [if_pos h2,if_pos (by omega)]
   ·rw [if_neg h2,if_neg (by omega)]
section
variable {y:ah} (Y:Yd y)
include Y
theorem MC:bY y=some (MP y (2 ^ y.jobs.length)):=by
 obtain⟨p1,p2⟩:=yC Y.jl
 have key:aD (eF y) FUEL (MP y (0+1),((0+1:Nat):Int))=some (.brk (MP y ((2 ^ y.jobs.length - 1)+1))):=by
  refine bO (body:=eF y) (fun n=>(MP y (n+1),((n+1:Nat):Int))) (2 ^ y.jobs.length - 1) _ (fuel_lt (by omega)) (fun n hn=> ?_) ?_
  ·obtain⟨c,hc⟩:=PU Y (s:=n+1) (by omega) (by omega)
   have hcF:cF y (n+1)=c:=by unfold cF;rw [hc];rfl
   unfold eF dB
   simp only
   rw [aA (by omega),Ii Y.jl,decide_eq_true (by omega),cond_true,Option.bind_some,MB _ (by omega),Option.bind_some,hc,QE (by omega)]
   show _=some (aU.next (MP y (n+2),((n+1+1:Nat):Int)))
   rw [MP,hcF]
   cases okF (MP y (n+1)) (n+1) true 5<;>rfl
  ·unfold eF
   simp only
   rw [aA (by omega),Ii Y.jl,decide_eq_false (by omega)];rfl
 unfold bY
 rw [show aD (eF y) FUEL (dQ bM 0 true [],1)=_ from key,Option.bind_some,show 2 ^ y.jobs.length - 1+1=2 ^ y.jobs.length by omega]
end
theorem TP {y:ah} {s i:Nat} (hi:i<5) (hb:s.testBit i=true) (h:BF y s=true):BF y (I5 s i)=true:=by
 have hlt:=Cx hb
 obtain⟨t,rfl⟩: ∃t,s=t+1:=⟨s - 1,by omega⟩
 unfold BF at h
 rw [Bool.and_eq_true,AX]at h
 have:=h.1.2 i hi hb
 rw [Mr,if_pos hlt]at this
 exact this
def sj (s i:Nat):List Int:=((List.range i).filter fun k=>s.testBit k).map Int.ofNat
def gu (s:Nat):List Int:=sj s 5
def sub (s t:Nat):Bool:=decide (s &&& t=s)
theorem QC:((List.range 32).all fun s=>kV (s:Int)==some (gu s))=true:=by kernel_rfl
theorem Tj {s:Nat} (h:s<32):kV (s:Int)=some (gu s):=eq_of_beq (List.all_eq_true.mp QC s (List.mem_range.mpr h))
theorem TL:((List.range 32).all fun s=>(List.range 32).all fun t=> !(gu s==gu t)||s==t)=true:=by kernel_rfl
theorem Vu {s t:Nat} (hs:s<32) (ht:t<32) (h:gu s=gu t):s=t:=by
 have:=List.all_eq_true.mp (List.all_eq_true.mp TL s (List.mem_range.mpr hs)) t (List.mem_range.mpr ht)
 rw [h]at this
 simpa using this
theorem SB:((List.range 32).all fun s=>(List.range 32).all fun t=>gV (gu s) (gu t)==some (sub s t))=true:=by kernel_rfl
theorem H8 {s t:Nat} (hs:s<32) (ht:t<32):gV (gu s) (gu t)=some (sub s t):=eq_of_beq (List.all_eq_true.mp (List.all_eq_true.mp SB s (List.mem_range.mpr hs)) t (List.mem_range.mpr ht))
theorem Sv:((List.range 32).all fun s=>(List.range 32).all fun t=> !sub s t||(s==t||(List.range 5).any fun i=>t.testBit i && sub s (I5 t i)))=true:=by kernel_rfl
theorem Ry {s t:Nat} (hs:s<32) (ht:t<32) (h:sub s t=true) (hne:s≠t): ∃i,i<5∧t.testBit i=true∧sub s (I5 t i)=true:=by
 have:=List.all_eq_true.mp (List.all_eq_true.mp Sv s (List.mem_range.mpr hs)) t (List.mem_range.mpr ht)
 rw [h,Bool.not_true,Bool.false_or,Bool.or_eq_true,List.any_eq_true]at this
 rcases this with h1|⟨i,h1,h2⟩
 ·exact absurd (by simpa using h1) hne
 ·rw [Bool.and_eq_true]at h2
  exact⟨i,List.mem_range.mp h1,h2.1,h2.2⟩
theorem VK:((List.range 32).all fun s=>(List.range 32).all fun t=>(List.range 5).all fun i=> !(t.testBit i && sub s (I5 t i))||sub s t)=true:=by kernel_rfl
theorem XK {s t i:Nat} (hs:s<32) (ht:t<32) (hi:i<5) (h1:t.testBit i=true) (h2:sub s (I5 t i)=true):sub s t=true:=by
 have:=List.all_eq_true.mp (List.all_eq_true.mp (List.all_eq_true.mp VK s (List.mem_range.mpr hs)) t (List.mem_range.mpr ht)) i (List.mem_range.mpr hi)
 rw [h1,h2]at this
 simpa using this
theorem sub_self (s:Nat):sub s s=true:=by unfold sub;simp
theorem sub_le {s t:Nat} (h:sub s t=true):s≤t:=by
 unfold sub at h
 have:=of_decide_eq_true h
 rw [←this];exact Nat.and_le_right
def Wx (y:ah) (s:Nat):Prop:=BF y s=false∧ ∀i,i<5→s.testBit i=true→BF y (I5 s i)=true
theorem mono {y:ah}: ∀(m t s:Nat),t≤m→t<32→s<32→sub s t=true→BF y t=true→BF y s=true
 |0,t,s,hm,ht,hs,h,hb=>by
  have h1:=sub_le h
  have:s=t:=by omega
  rw [this];exact hb
 |m+1,t,s,hm,ht,hs,h,hb=>by
  by_cases e:s=t
  ·rw [e];exact hb
  ·obtain⟨i,hi,h1,h2⟩:=Ry hs ht h e
   have hlt:=Cx h1
   exact mono m (I5 t i) s (by omega) (by omega) hs h2 (TP hi h1 hb)
theorem Uo {y:ah}: ∀(m t:Nat),t≤m→t<32→BF y t=false→ ∃s,Wx y s∧sub s t=true∧s<32
 |0,t,hm,ht,h=>by
  have:t=0:=by omega
  rw [this]at h;cases h
 |m+1,t,hm,ht,h=>by
  by_cases hc: ∃i,i<5∧t.testBit i=true∧BF y (I5 t i)=false
  ·obtain⟨i,hi,h1,h2⟩:=hc
   have hlt:=Cx h1
   obtain⟨s,g1,g2,g3⟩:=Uo m (I5 t i) (by omega) (by omega) h2
   exact⟨s,g1,XK g3 ht hi h1 g2,g3⟩
  ·refine⟨t,⟨h,fun i hi hb=> ?_⟩,sub_self t,ht⟩
   cases hx:BF y (I5 t i)with
   |true=>rfl
   |false=>exact absurd ⟨i,hi,hb,hx⟩ hc
theorem Np {y:ah} {s t:Nat} (hs:s<32) (ht:t<32) (h1:Wx y s) (h2:Wx y t) (h:sub s t=true):s=t:=by
 by_cases e:s=t
 ·exact e
 ·obtain⟨i,hi,g1,g2⟩:=Ry hs ht h e
  have hlt:=Cx g1
  have:=mono (I5 t i) (I5 t i) s (Nat.le_refl _) (by omega) hs g2 (h2.2 i hi g1)
  rw [h1.1]at this;cases this
section
variable {y:ah} (Y:Yd y)
include Y
theorem DT {k:Nat} (h:k<2 ^ y.jobs.length):(aS bM (k:Int) (MP y (2 ^ y.jobs.length))).getD false=BF y k:=by
 obtain⟨p1,p2⟩:=yC Y.jl
 obtain⟨t,ht⟩: ∃t,2 ^ y.jobs.length=t+1:=⟨2 ^ y.jobs.length - 1,by omega⟩
 rw [ht,Mr,if_pos (by omega)];rfl
def lsB (y:ah) (s:Nat):Bool:=okF (MP y (2 ^ y.jobs.length)) s (!BF y s) 5
theorem KS {s:Nat} (h:s<2 ^ y.jobs.length):lsB y s=true↔Wx y s:=by
 unfold lsB Wx
 rw [AX,Bool.not_eq_true']
 constructor
 ·rintro ⟨h1,h2⟩
  refine⟨h1,fun i hi hb=> ?_⟩
  have:=h2 i hi hb
  have hlt:=Cx hb
  rwa [DT Y (by omega)]at this
 ·rintro ⟨h1,h2⟩
  refine⟨h1,fun i hi hb=> ?_⟩
  have hlt:=Cx hb
  rw [DT Y (by omega)];exact h2 i hi hb
def qc (y:ah):Nat→List (List Int)
 |0=>[]
 |n+1=>if lsB y (n+1)=true then qc y n++[gu (n+1)]else qc y n
omit Y in
theorem uR (y:ah): ∀(n:Nat) (x:List Int),x∈qc y n↔ ∃s,1≤s∧s≤n∧lsB y s=true∧x=gu s
 |0,x=> ⟨fun h=>by simp [qc]at h,fun⟨s,h1,h2,_⟩=>by omega⟩
 |n+1,x=>by
  unfold qc
  by_cases hl:lsB y (n+1)=true
  ·rw [if_pos hl,List.mem_append,uR y n x,List.mem_singleton]
   constructor
   ·rintro (⟨s,h1,h2,h3⟩|h)
    ·exact⟨s,h1,by omega,h3⟩
    ·exact⟨n+1,by omega,by omega,hl,h⟩
   ·rintro ⟨s,h1,h2,h3,h4⟩
    by_cases e:s=n+1
    ·subst e;exact .inr h4
    ·exact .inl ⟨s,h1,by omega,h3,h4⟩
  ·rw [if_neg hl,uR y n x]
   constructor
   ·rintro ⟨s,h1,h2,h3⟩;exact⟨s,h1,by omega,h3⟩
   ·rintro ⟨s,h1,h2,h3,h4⟩
    by_cases e:s=n+1
    ·subst e;exact absurd h3 hl
    ·exact⟨s,h1,by omega,h3,h4⟩
omit Y in
theorem xU (y:ah): ∀n:Nat,(qc y n).length≤n
 |0=>by simp [qc]
 |n+1=>by
  have:=xU y n
  unfold qc
  split
  ·rw [List.length_append,List.length_singleton];omega
  ·omega
omit Y in
theorem zV (y:ah): ∀n:Nat,n<32→(qc y n).Nodup
 |0,_=>by simp [qc]
 |n+1,hn=>by
  have ih:=zV y n (by omega)
  unfold qc
  split
  ·rw [List.nodup_append]
   refine⟨ih,by simp,fun a ha b hb=> ?_⟩
   rw [List.mem_singleton]at hb
   subst hb
   rintro rfl
   obtain⟨s,h1,h2,_,h4⟩:=(uR y n _).1 ha
   have:=Vu (by omega) (by omega) h4
   omega
  ·exact ih
omit Y in
theorem NS (s:Nat):(gu s).length≤5:=by
 unfold gu sj
 rw [List.length_map]
 have:=List.length_filter_le (fun k=>s.testBit k) (List.range 5)
 rw [List.length_range]at this;exact this
theorem VI (hc:dL y=some 0): ∃r,gX y=some (r,0)∧r.Perm (qc y (2 ^ y.jobs.length - 1)):=by
 obtain⟨p1,p2⟩:=yC Y.jl
 have key:aD (gK y (MP y (2 ^ y.jobs.length))) FUEL (qc y 0,((0+1:Nat):Int))=some (.brk (qc y (2 ^ y.jobs.length - 1))):=by
  refine bO (body:=gK y (MP y (2 ^ y.jobs.length))) (fun n=>(qc y n,((n+1:Nat):Int))) (2 ^ y.jobs.length - 1) _ (fuel_lt (by omega)) (fun n hn=> ?_) ?_
  ·have hlen:=xU y n
   unfold gK dB
   simp only
   rw [aA (by omega),Ii Y.jl,decide_eq_true (by omega),cond_true,Option.bind_some,DT Y (by omega),Qp _ (by omega),Option.bind_some,QE (by omega)]
   show _=some (aU.next (qc y (n+1),((n+1+1:Nat):Int)))
   rw [qc]
   show(bif lsB y (n+1)then _ else _)=_
   cases lsB y (n+1)with
   |false=>rw [cond_false,if_neg (by decide)]
   |true=>rw [cond_true,if_pos rfl,Option.bind_some,Tj (by omega),Option.bind_some,aA ⟨by simp only [List.length_singleton];omega,by simp only [List.length_singleton];omega⟩]
  ·unfold gK
   simp only
   rw [aA (by omega),Ii Y.jl,decide_eq_false (by omega)];rfl
 have hl:=xU y (2 ^ y.jobs.length - 1)
 have hnd:=zV y (2 ^ y.jobs.length - 1) (by omega)
 have hs:bP (qc y (2 ^ y.jobs.length - 1))=some ((qc y (2 ^ y.jobs.length - 1)).mergeSort fun x y=> !decide (cmpL y x<0)):=by
  unfold bP
  rw [decide_eq_true (by omega),decide_eq_true hnd,List.all_eq_true.mpr (fun x hx=>by
   obtain⟨s,_,_,_,e⟩:=(uR y _ x).1 hx
   have:=NS s
   rw [e];exact decide_eq_true (by omega))];rfl
 refine⟨_, ?_,List.mergeSort_perm (qc y (2 ^ y.jobs.length - 1)) fun x y=> !decide (cmpL y x<0)⟩
 unfold gX
 rw [hc,Option.bind_some,decide_eq_true rfl,Bool.not_true,cond_false,MC Y,Option.bind_some,show aD (gK y (MP y (2 ^ y.jobs.length))) FUEL ([],1)=_ from key,Option.bind_some]
 simp only
 rw [hs,Option.bind_some,aA (by rw [List.length_mergeSort])]
end
theorem Pw:((List.range 256).all fun n=>(List.range 5).all fun i=>decide ((IntKind.wrap .u8 (((BitVec.ofInt (IntKind.bits .u8) (Int.fdiv (n:Int) (2 ^ min (i:Int).toNat (IntKind.bits .u8))) &&& BitVec.ofInt (IntKind.bits .u8) 1).toNat:Int)))=1)==n.testBit i)=true:=by kernel_rfl
theorem TR {n i:Nat} (hn:n<256) (hi:i<5):decide ((IntKind.wrap .u8 (((BitVec.ofInt (IntKind.bits .u8) (Int.fdiv (n:Int) (2 ^ min (i:Int).toNat (IntKind.bits .u8))) &&& BitVec.ofInt (IntKind.bits .u8) 1).toNat:Int)))=1)=n.testBit i:=
 eq_of_beq (List.all_eq_true.mp (List.all_eq_true.mp Pw n (List.mem_range.mpr hn)) i (List.mem_range.mpr hi))
theorem Qa:((List.range 256).all fun n=>(List.range 6).all fun J=>sj n J==gu (n % 2 ^ J))=true:=by kernel_rfl
theorem TB {n J:Nat} (hn:n<256) (hJ:J≤5):sj n J=gu (n % 2 ^ J):=eq_of_beq (List.all_eq_true.mp (List.all_eq_true.mp Qa n (List.mem_range.mpr hn)) J (List.mem_range.mpr (by omega)))
theorem Lu (n i:Nat):sj n (i+1)=if n.testBit i=true then sj n i++[(i:Int)]else sj n i:=by
 unfold sj
 rw [List.range_succ,List.filter_append]
 by_cases h:n.testBit i=true
 ·rw [if_pos h,List.filter_cons_of_pos (by simpa using h)];simp
 ·rw [if_neg h,List.filter_cons_of_neg (by simpa using h)];simp
theorem OB (n:Nat): ∀i,(sj n i).length≤i:=fun i=>by
 unfold sj
 rw [List.length_map]
 have:=List.length_filter_le (fun k=>n.testBit k) (List.range i)
 rw [List.length_range]at this;exact this
theorem PK (y:ah) (hJ:y.jobs.length≤5) {n:Nat} (hn:n<256):aD (dU (n:Int) y) FUEL ([],0)=some (.brk (y.jobs,gu (n % 2 ^ y.jobs.length))):=by
 have key:aD (dU (n:Int) y) FUEL (sj n 0,((0:Nat):Int))=some (.brk (y.jobs,sj n y.jobs.length)):=by
  refine bO (body:=dU (n:Int) y) (fun i=>(sj n i,(i:Int))) y.jobs.length _ (fuel_lt (by omega)) (fun i hi=> ?_) ?_
  ·have hl:=OB n i
   unfold dU
   simp only
   rw [decide_eq_true (by omega),cond_true,aA (by omega),TR hn (by omega),wr (by omega)]
   show _=some (aU.next (sj n (i+1),((i+1:Nat):Int)))
   rw [Lu]
   cases n.testBit i with
   |false=>rw [cond_false,if_neg (by decide)];rfl
   |true=>rw [cond_true,if_pos rfl,aA ⟨by simp only [List.length_singleton];omega,by simp only [List.length_singleton];omega⟩];rfl
  ·unfold dU
   simp only
   rw [decide_eq_false (by omega)];rfl
 rw [←TB hn hJ]
 exact key
def yJ (J:Nat):ah:=⟨default,default,[],List.replicate J default,0,false⟩
theorem NQ (y:ah) (jobs:List Int):eY y jobs=eY (yJ y.jobs.length) jobs:=by
 funext z
 unfold eY
 rw [show(yJ y.jobs.length).jobs.length=y.jobs.length from List.length_replicate]
def Qi (o:Option (Ex Int (Bool × Int))) (t:Nat):Bool:=match o with|some (.brk s)=>decide (s=(t:Int))|_=>false
theorem Pd:((List.range 6).all fun J=>(List.range (2 ^ J)).all fun t=>Qi (aD (eY (yJ J) (gu t)) FUEL (0,0)) t)=true:=by kernel_rfl
theorem RD {o:Option (Ex Int (Bool × Int))} {t:Nat} (h:Qi o t=true):o=some (.brk (t:Int)):=by
 unfold Qi at h
 split at h
 ·rw [of_decide_eq_true h]
 ·cases h
theorem Si (y:ah) (hJ:y.jobs.length≤5) {t:Nat} (ht:t<2 ^ y.jobs.length):aD (eY y (gu t)) FUEL (0,0)=some (.brk (t:Int)):=by
 rw [NQ]
 exact RD (List.all_eq_true.mp (List.all_eq_true.mp Pd y.jobs.length (List.mem_range.mpr (by omega))) t (List.mem_range.mpr ht))
section
variable {y:ah} (Y:Yd y) (hc:dL y=some 0)
include Y hc
theorem M0 {t:Nat} (ht:t<2 ^ y.jobs.length):eG y (gu t)=some (BF y t,0):=by
 unfold eG
 rw [hc,Option.bind_some,decide_eq_true rfl,Bool.not_true,cond_false,Si y Y.jl ht,Option.bind_some]
 simp only
 rw [MC Y,Option.bind_some,DT Y ht]
omit hc
theorem yL {r:List (List Int)} (hr:r.Perm (qc y (2 ^ y.jobs.length - 1))) {i:Nat} (hi:i<r.length): ∃s,1≤s∧s<2 ^ y.jobs.length∧Wx y s∧at' r i=gu s:=by
 obtain⟨p1,p2⟩:=yC Y.jl
 obtain⟨s,h1,h2,h3,h4⟩:=(uR y _ _).1 (hr.mem_iff.1 (at_mem hi))
 exact⟨s,h1,by omega,(KS Y (by omega)).1 h3,h4⟩
theorem Rm {r:List (List Int)} (hr:r.Perm (qc y (2 ^ y.jobs.length - 1))) {i:Nat} (hi:i<r.length):aD (fE (r,0) (i:Int)) FUEL 0=some (.brk ()):=by
 obtain⟨p1,p2⟩:=yC Y.jl
 have hrl:r.length≤32:=by have:=xU y (2 ^ y.jobs.length - 1);rw [←hr.length_eq]at this;omega
 have hnd:r.Nodup:=hr.nodup_iff.2 (zV y _ (by omega))
 refine bO (body:=fE (r,0) (i:Int)) (fun k=>(k:Int)) r.length _ (fuel_lt (by omega)) (fun k hk=> ?_) ?_
 ·unfold fE
  simp only [Int.toNat_natCast]
  rw [decide_eq_true (by omega),cond_true]
  by_cases e:i=k
  ·subst e
   rw [decide_eq_true (rfl:(i:Int)=(i:Int)),Bool.not_true,show gB [(false,true)]=false from rfl,cond_false,Option.bind_some,aA ⟨fun h=>(by cases h),fun h=>(by cases h)⟩,cond_false,cond_false,wr (by omega)];rfl
  ·obtain⟨s,s1,s2,s3,s4⟩:=yL Y hr hi
   obtain⟨t,t1,t2,t3,t4⟩:=yL Y hr hk
   have hne:s≠t:=fun h=>by
    subst h
    have:at' r i=at' r k:=by rw [s4,t4]
    rw [gQ hi,gQ hk]at this
    exact e ((List.getElem_inj hnd).1 this)
   have hsub:sub s t=false:=by
    cases hx:sub s t with
    |false=>rfl
    |true=>exact absurd (Np (by omega) (by omega) s3 t3 hx) hne
   rw [decide_eq_false (show ¬ (i:Int)=(k:Int) by omega),Bool.not_false,show gB [(true,true)]=true from rfl,cond_true,s4,t4,H8 (by omega) (by omega),Option.bind_some,aA ⟨fun _=>by omega,fun _=>by omega⟩,hsub,cond_true,cond_false,wr (by omega)];rfl
 ·unfold fE
  simp only
  rw [decide_eq_false (by omega)];rfl
def pI (r:List (List Int)) (jobs:List Int):Nat→Bool
 |0=>true
 |n+1=>pI r jobs n && !((gV (at' r n) jobs).getD false)
omit Y in
theorem yA {r:List (List Int)} {jobs:List Int}: ∀{n:Nat},pI r jobs n=true↔ ∀i,i<n→(gV (at' r i) jobs).getD false=false
 |0=> ⟨fun _ i hi=>by omega,fun _=>rfl⟩
 |n+1=>by
  unfold pI
  rw [Bool.and_eq_true,yA (n:=n),Bool.not_eq_true']
  constructor
  ·rintro ⟨h1,h2⟩ i hi
   by_cases e:i=n
   ·subst e;exact h2
   ·exact h1 i (by omega)
  ·intro h
   exact⟨fun i hi=>h i (by omega),h n (by omega)⟩
theorem Pk {r:List (List Int)} (hr:r.Perm (qc y (2 ^ y.jobs.length - 1))) {t:Nat} (ht:t<2 ^ y.jobs.length):aD (dV (r,0) (gu t)) FUEL (true,0)=some (.brk (pI r (gu t) r.length)):=by
 obtain⟨p1,p2⟩:=yC Y.jl
 have hrl:r.length≤32:=by have:=xU y (2 ^ y.jobs.length - 1);rw [←hr.length_eq]at this;omega
 have key:aD (dV (r,0) (gu t)) FUEL (pI r (gu t) 0,((0:Nat):Int))=some (.brk (pI r (gu t) r.length)):=by
  refine bO (body:=dV (r,0) (gu t)) (fun i=>(pI r (gu t) i,(i:Int))) r.length _ (fuel_lt (by omega)) (fun i hi=> ?_) ?_
  ·obtain⟨s,s1,s2,s3,s4⟩:=yL Y hr hi
   unfold dV
   simp only [Int.toNat_natCast]
   rw [decide_eq_true (by omega),cond_true,Rm Y hr hi,wr (by omega)]
   show _=some (aU.next (pI r (gu t) (i+1),((i+1:Nat):Int)))
   rw [pI,s4,H8 (by omega) (by omega)]
   cases pI r (gu t) i with
   |false=>rw [show gB [(false,true)]=false from rfl,cond_false,Option.bind_some,aA (fun h=>by cases h)];rfl
   |true=>rw [show gB [(true,true)]=true from rfl,cond_true,Option.bind_some,aA (fun _=>by omega)];rfl
  ·unfold dV
   simp only
   rw [decide_eq_false (by omega)];rfl
 exact key
theorem Sj {r:List (List Int)} (hr:r.Perm (qc y (2 ^ y.jobs.length - 1))) {t:Nat} (ht:t<2 ^ y.jobs.length):pI r (gu t) r.length=BF y t:=by
 obtain⟨p1,p2⟩:=yC Y.jl
 cases hb:BF y t with
 |true=>
  rw [yA]
  intro i hi
  obtain⟨s,s1,s2,s3,s4⟩:=yL Y hr hi
  rw [s4,H8 (by omega) (by omega)]
  cases hx:sub s t with
  |false=>rfl
  |true=>
   have:=mono t t s (Nat.le_refl _) (by omega) (by omega) hx hb
   rw [s3.1]at this;cases this
 |false=>
  cases hx:pI r (gu t) r.length with
  |false=>rfl
  |true=>
   rw [yA]at hx
   obtain⟨s,g1,g2,g3⟩:=Uo t t (Nat.le_refl _) (by omega) hb
   have hle:=sub_le g2
   have h1:1≤s:=by
    by_cases e:s=0
    ·subst e;have:=g1.1;cases this
    ·omega
   have hm:gu s∈r:=hr.mem_iff.2 ((uR y _ _).2 ⟨s,h1,by omega,(KS Y (by omega)).2 g1,rfl⟩)
   obtain⟨i,hi,e⟩:=iY hm
   have:=hx i hi
   rw [e,H8 (by omega) (by omega),g2]at this
   cases this
end
theorem Eu {α:Type} [Inhabited α] {l:List α} {t:Nat} (h:t<l.length):l.take t++[at' l t]=l.take (t+1):=by
 rw [List.take_succ_eq_append_getElem h,gQ h]
theorem FR (x:Link) (h:x.trip.length≤8796093021952):nX x=some x:=by
 unfold nX pV
 rw [aA (by omega)];rfl
theorem ES (p:aC) (h1:p.sources.length≤60) (h2:p.links.length≤60) (h3:p.racks.length≤60) (h4: ∀x∈p.links,x.trip.length≤8796093021952):lN p=some p:=by
 have key:aD (eX p.links) FUEL (p.links.take 0,((0:Nat):Int))=some (.brk (p.links.take p.links.length)):=by
  refine bO (body:=eX p.links) (fun t=>(p.links.take t,(t:Int))) p.links.length _ (fuel_lt (by omega)) (fun t ht=> ?_) ?_
  ·unfold eX
   have d1:decide ((t:Int)<(p.links.length:Int))=true:=decide_eq_true (by omega)
   simp only [d1,cond_true,Int.toNat_natCast]
   have:=h4 _ (at_mem ht)
   rw [FR _ (by omega),Option.bind_some,aA ⟨by omega,by rw [List.length_take,List.length_singleton];omega,by rw [List.length_take,List.length_singleton];omega⟩,wr (by omega),Eu ht]
   rfl
  ·unfold eX
   have d1:decide ((p.links.length:Int)<(p.links.length:Int))=false:=decide_eq_false (by omega)
   simp only [d1,cond_false]
 have key':aD (eX p.links) FUEL ([],0)=_:=key
 unfold lN ny pQ pM
 rw [aA (by omega),key',aA (by omega),List.take_length]
 rfl
def y8 (y:wX):ah:=⟨y.plant,y.state,y.transfers,y.jobs,y.people,y.redundant⟩
theorem UO (y:wX) (h1:y.plant.sources.length≤60) (h2:y.plant.links.length≤60) (h3:y.plant.racks.length≤60) (h4: ∀x∈y.plant.links,x.trip.length≤8796093021952) (hs:GI y.state) (ht:y.transfers.length≤20) (hj:y.jobs.length≤8)
  (hj2: ∀x∈y.jobs,x.parts.length≤8796093021952∧x.after.length≤17592186043904):gI y=some (y8 y):=by
 have k0:aD (jb y) FUEL (y.transfers.take 0,((0:Nat):Int))=some (.brk (y.transfers.take y.transfers.length)):=by
  refine bO (body:=jb y) (fun t=>(y.transfers.take t,(t:Int))) y.transfers.length _ (fuel_lt (by omega)) (fun t ht=> ?_) ?_
  ·unfold jb
   simp only [Int.toNat_natCast]
   rw [decide_eq_true (by omega),cond_true,aA ⟨by omega,by rw [List.length_take,List.length_singleton];omega,by rw [List.length_take,List.length_singleton];omega⟩,wr (by omega),Eu ht];rfl
  ·unfold jb
   simp only
   rw [decide_eq_false (by omega)];rfl
 have k1:aD (jh y) FUEL (y.jobs.take 0,((0:Nat):Int))=some (.brk (y.jobs.take y.jobs.length)):=by
  refine bO (body:=jh y) (fun t=>(y.jobs.take t,(t:Int))) y.jobs.length _ (fuel_lt (by omega)) (fun t ht=> ?_) ?_
  ·obtain⟨g1,g2⟩:=hj2 _ (at_mem ht)
   unfold jh pU ru
   simp only [Int.toNat_natCast]
   rw [decide_eq_true (by omega),cond_true,aA (by omega),aA (by omega),Option.bind_some,aA (by omega),Option.bind_some,aA ⟨by rw [List.length_take,List.length_singleton];omega,by rw [List.length_take,List.length_singleton];omega⟩,wr (by omega),
    show(⟨(at' y.jobs t).parts,(at' y.jobs t).hours,(at' y.jobs t).from_,(at' y.jobs t).to_,(at' y.jobs t).people,(at' y.jobs t).after⟩:dP)=at' y.jobs t from rfl,Eu ht];rfl
  ·unfold jh
   simp only
   rw [decide_eq_false (by omega)];rfl
 rw [List.take_length]at k0 k1
 unfold gI
 rw [ES _ h1 h2 h3 h4,Option.bind_some,Ei _ hs,Option.bind_some,show aD (jb y) FUEL ([],0)=_ from k0,Option.bind_some]
 simp only
 rw [show aD (jh y) FUEL ([],0)=_ from k1];rfl
theorem Em (y:wX) (n:Int) (hn:0≤n∧n≤255) (hp:Small y.plant) (h4: ∀x∈y.plant.links,x.trip.length≤8796093021952) (hs:GI y.state)
  (hj2: ∀x∈y.jobs,x.parts.length≤8796093021952∧x.after.length≤17592186043904):kr y n=some true:=by
 unfold kr
 rw [LX]
 cases hb:(bif (bif (bif (bif (decide (60<(y.plant.sources.length:Int)))then true else(decide (60<(y.plant.links.length:Int))))then true else(decide (60<(y.plant.racks.length:Int))))then true else(decide (20<(y.transfers.length:Int))))then true else(decide (8<(y.jobs.length:Int))))with
 |true=>rfl
 |false=>
  have bor: ∀a b:Bool,(bif a then true else b)=(a||b):=fun a b=>by cases a<;>rfl
  simp only [bor,Bool.or_eq_false_iff,decide_eq_false_iff_not]at hb
  obtain⟨⟨⟨⟨b1,b2⟩,b3⟩,b4⟩,b5⟩:=hb
  rw [cond_false,UO y (by omega) (by omega) (by omega) h4 hs (by omega) (by omega) hj2,Option.bind_some]
  obtain⟨e,he,hY⟩:=Pe (y8 y) hp (by show y.transfers.length≤20;omega) (by show y.jobs.length≤8;omega) (fun i hi=>by
   have:=hj2 _ (at_mem (show i<y.jobs.length from hi))
   exact⟨by show(at' y.jobs i).parts.length≤_;omega,by show(at' y.jobs i).after.length≤_;omega⟩)
  rw [he,Option.bind_some]
  by_cases h0:e=0
  ·subst h0
   have Y:=hY rfl
   obtain⟨r,hr,hperm⟩:=VI Y he
   obtain⟨m,rfl⟩: ∃m:Nat,n=(m:Int):=⟨n.toNat,by omega⟩
   obtain⟨p1,p2⟩:=yC Y.jl
   have hm:m % 2 ^ (y8 y).jobs.length<2 ^ (y8 y).jobs.length:=Nat.mod_lt _ (by omega)
   have b0:=M0 Y he (t:=0) (by omega)
   rw [decide_eq_true rfl,Bool.not_true,cond_false,hr,Option.bind_some]
   simp only [decide_true,Bool.not_true,cond_false]
   rw [PK (y8 y) Y.jl (by omega),Option.bind_some]
   simp only
   rw [show(⟨(y8 y).plant,(y8 y).state,(y8 y).transfers,(y8 y).jobs,(y8 y).people,(y8 y).redundant⟩:ah)=y8 y from rfl,M0 Y he hm,Option.bind_some,show eG (y8 y) []=_ from b0,Option.bind_some]
   simp only
   rw [show BF (y8 y) 0=true from rfl,Pk Y hperm hm,Sj Y hperm hm]
   cases BF (y8 y) (m % 2 ^ (y8 y).jobs.length)<;>rfl
  ·rw [decide_eq_false h0];rfl
end Sg
