import Derived.Test.YtpndenfhglaikaaLd
set_option linter.all false
namespace Sg
open Go Go.ChangeShapes Go.WideShapes Go.RowKit Go.Deep
structure Rz (P:Program) (t:TypeId) (n:Nat) {α:Type} (c:α→Nat→DV) (S:α→Prop):Prop where
 size:P.cellsOf t=n
 rd: ∀{H:Type} {enc:TypeId × Value→H} {w:World} {fuel:Nat} {cs:List Value} {x:DataW H × List MemPlace},DataW.trod enc P w 0 (fun _=>true) true fuel t cs=some x→(∀q∈x.1.weights P t,q≤reachBytes)→
  ∃a:α,S a∧cs.length=n∧ ∀j,j<n→ ∃u,cs[j]? =some u∧eO (Gh w) w (c a j) u
section
variable {P:Program} {t e:TypeId}
theorem Rd.z {n:Nat} {α:Type} {c:α→Nat→DV} {S:α→Prop} (h:Rd P t n c S):Rz P t n c S:=⟨h.size,fun h1 _=>h.rd h1⟩
theorem rJ {H:Type}: ∀{l:List (DataW H)} {d:DataW H} {q:Nat},d∈l→q∈d.weights P e→q∈DataW.weightsAll P e l
 |[],_,_,h,_=>by cases h
 |d::r,d',q,h,hq=>by
  unfold DataW.weightsAll
  rw [List.mem_append]
  rcases List.mem_cons.1 h with rfl|h
  ·exact .inl hq
  ·exact .inr (rJ h hq)
open Classical in
theorem Rz.slice {n b:Nat} {α:Type} [Inhabited α] {c:α→Nat→DV} {S:α→Prop} (ht:P.underlying t=some (.slice e)) (hs:P.cellsOf t=1) (hn:0<n) (hb:P.bytesOf e=b) (he:Rz P e n c S):Rz P t 1 (Rf n c) (fun l=>l.length≤9223372036854775807∧(∀x∈l,S x)∧l.length*b≤140737488351232):=by
 refine⟨hs,fun{H enc w fuel cs x} h hz=> ?_⟩
 rcases open_slice ht h with⟨rfl,_⟩|⟨a,len,cap,m,fu,D,Pl,rfl,hbl,hl,hm,hmm,hxx,hx⟩
 ·refine⟨[],⟨by simp,by simp,by simp⟩,rfl,fun j hj=> ?_⟩
  have:j=0:=by omega
  subst this
  exact⟨_,rfl,none,0,rfl,by simp,by simp,by simp,Nat.le_refl _,by simp⟩
 ·simp only [if_true]at hmm
  subst hmm
  have hwt:x.1.weights P t=(((List.range len).map D).length+((List.range (m - len)).map fun j=>D (len+j)).length)*P.bytesOf e::(DataW.weightsAll P e ((List.range len).map D)++DataW.weightsAll P e ((List.range (m - len)).map fun j=>D (len+j))):=by
   rw [hxx];simp only [DataW.weights,ht]
  rw [hwt]at hz
  have hzi: ∀i,i<m→ ∀q∈(D i).weights P e,q≤reachBytes:=fun i hi q hq=>by
   refine hz q (List.mem_cons_of_mem _ (List.mem_append.2 ?_))
   by_cases h1:i<len
   ·exact .inl (rJ (List.mem_map.2 ⟨i,List.mem_range.2 h1,rfl⟩) hq)
   ·exact .inr (rJ (List.mem_map.2 ⟨i - len,List.mem_range.2 (by omega),by rw [show len+(i - len)=i by omega]⟩) hq)
  have hz0:len*b≤140737488351232:=by
   have:=hz _ List.mem_cons_self
   rw [List.length_map,List.length_map,List.length_range,List.length_range,hb,show len+(m - len)=m by omega]at this
   have h2:len*b≤m*b:=Nat.mul_le_mul_right _ hl
   have h3:reachBytes=140737488351232:=by decide
   omega
  have hel: ∀i,i<m→ ∃y:α,S y∧ ∀j,j<n→a.spot=none∧ ∃u,w.cell? ⟨a.block,a.off+(i*n+j),none⟩=some u∧eO (Gh w) w (c y j) u:=by
   intro i hi
   obtain⟨cs',h1,h2⟩:=hx i hi
   rw [he.size]at h1
   obtain⟨y,hy,hlen,hc⟩:=he.rd h2 (hzi i hi)
   obtain⟨_,hcl,hat⟩:=World.cells?_some h1
   obtain⟨cs0,h10,h20⟩:=hx 0 (by omega)
   rw [he.size]at h10
   obtain⟨y0,_,hlen0,hc0⟩:=he.rd h20 (hzi 0 (by omega))
   obtain⟨_,_,hat0⟩:=World.cells?_some h10
   obtain⟨u0,hu0,_⟩:=hc0 0 hn
   have hsp:a.spot=none:=by
    have:=(hat0 0 hn).trans hu0
    simp only [Nat.zero_mul]at this
    have h3:=cell_spot this
    simpa [Addr.add]using h3
   refine⟨y,hy,fun j hj=> ⟨hsp, ?_⟩⟩
   obtain⟨u,hu,hr⟩:=hc j hj
   refine⟨u, ?_,hr⟩
   have:=(hat j hj).trans hu
   rw [vk hsp,vk rfl]at this
   rw [←this];simp only [Nat.add_assoc]
  let pick:Nat→α:=fun i=>if h:i<m then Classical.choose (hel i h)else default
  have hpick: ∀i,i<m→S (pick i)∧ ∀j,j<n→a.spot=none∧ ∃u,w.cell? ⟨a.block,a.off+(i*n+j),none⟩=some u∧eO (Gh w) w (c (pick i) j) u:=by
   intro i hi
   show S (dite _ _ _)∧_
   simp only [pick,dif_pos hi]
   exact Classical.choose_spec (hel i hi)
  let l:List α:=(List.range len).map pick
  have hll:l.length=len:=by simp [l]
  have hat: ∀i,i<len→at' l i=pick i:=fun i hi=>by simp [at',l,hi]
  refine⟨l,⟨by rw [hll];exact Nat.le_trans (Nat.le_trans hl hm) (by decide),fun x hx=> ?_,by rw [hll];exact hz0⟩,rfl,fun j hj=> ?_⟩
  ·obtain⟨i,hi,rfl⟩:=List.mem_map.mp hx
   exact(hpick i (Nat.lt_of_lt_of_le (List.mem_range.mp hi) hl)).1
  ·have:j=0:=by omega
   subst this
   refine⟨_,rfl,some a,m, ?_,by simp,by simp,by simp,by rw [hll];exact hl,fun ad ha=> ?_⟩
   ·simp [hll]
   ·cases ha
    refine⟨fun h0=> ?_,fun i hi j hj=> ?_⟩
    ·exact((hpick 0 (by omega)).2 0 hn).1
    ·rw [hll]at hi
     obtain⟨_,u,hu,hr⟩:=(hpick i (by omega)).2 j hj
     exact⟨XK hu,u,hu,by show eO _ _ (c (at' l i) j) u;rw [hat i hi];exact hr⟩
theorem Rz.fields {fs:Array Field} {n:Nat} (ht:P.underlying t=some (.struct fs)) (hs:P.cellsOf t=n) {H:Type} {enc:TypeId × Value→H} {w:World} {fuel:Nat} {cs:List Value} {x:DataW H × List MemPlace}
  (h:DataW.trod enc P w 0 (fun _=>true) true fuel t cs=some x) (hz: ∀q∈x.1.weights P t,q≤reachBytes):cs.length=n∧ ∀(i:Nat) (f:Field),fs[i]? =some f→ ∃y,DataW.trod enc P w 0 (fun _=>true) true (fuel - 1) f.type ((cs.drop f.offset).take (P.cellsOf f.type))=some y∧ ∀q∈y.1.weights P f.type,q≤reachBytes:=by
 obtain⟨xs,m,rfl,hx,hl,hxl,hf⟩:=DataW.trod_struct ht h
 have hd:x.1= .agg (xs.map (·.1)):=congrArg Prod.fst hx
 refine⟨by rw [hl,hs],fun i f hi=> ?_⟩
 have hlt:=(Array.getElem?_eq_some_iff.mp hi).1
 have h1:=hf i f hi
 rw [List.getElem?_eq_getElem (by omega)]at h1
 refine⟨_,h1,fun q hq=>hz q ?_⟩
 rw [hd]
 simp only [DataW.weights,ht]
 refine DataW.weights_mem_each (j:=i) (t:=f.type) (d:=(xs[i]'(by omega)).1) ?_ ?_ _ hq
 ·rw [List.getElem?_map];simp [hi]
 ·rw [List.getElem?_map,List.getElem?_eq_getElem (by omega)];rfl
theorem Rz.field {n off:Nat} {α:Type} {c:α→Nat→DV} {S:α→Prop} (he:Rz P e n c S) {H:Type} {enc:TypeId × Value→H} {w:World} {fuel:Nat} {cs:List Value}
  (h: ∃y,DataW.trod enc P w 0 (fun _=>true) true fuel e ((cs.drop off).take (P.cellsOf e))=some y∧ ∀q∈y.1.weights P e,q≤reachBytes): ∃a:α,S a∧ ∀j,j<n→ ∃u,cs[off+j]? =some u∧eO (Gh w) w (c a j) u:=by
 obtain⟨y,hy,hz⟩:=h
 rw [he.size]at hy
 obtain⟨a,ha,hl,hc⟩:=he.rd hy hz
 exact⟨a,ha,Mi hc⟩
theorem Rz.elems {m n:Nat} (ht:P.underlying t=some (.array m e)) (hs:P.cellsOf t=n) {H:Type} {enc:TypeId × Value→H} {w:World} {fuel:Nat} {cs:List Value} {x:DataW H × List MemPlace}
  (h:DataW.trod enc P w 0 (fun _=>true) true fuel t cs=some x) (hz: ∀q∈x.1.weights P t,q≤reachBytes):cs.length=n∧ ∀(i:Nat),i<m→ ∃y,DataW.trod enc P w 0 (fun _=>true) true (fuel - 1) e ((cs.drop (i*P.cellsOf e)).take (P.cellsOf e))=some y∧ ∀q∈y.1.weights P e,q≤reachBytes:=by
 obtain⟨xs,q,rfl,hx,hl,hxl,hf⟩:=DataW.trod_array ht h
 have hd:x.1= .agg (xs.map (·.1)):=congrArg Prod.fst hx
 refine⟨by rw [hl,hs],fun i hi=> ?_⟩
 have h1:=hf i hi
 rw [List.getElem?_eq_getElem (by omega)]at h1
 refine⟨_,h1,fun q hq=>hz q ?_⟩
 rw [hd]
 simp only [DataW.weights,ht]
 exact rJ (List.mem_map.2 ⟨_,List.getElem_mem _,rfl⟩) hq
theorem Rz.agg {n:Nat} {α:Type} {c:α→Nat→DV} {S:α→Prop} (hr:Rz P t n c S) {fs:Array Field} (ht:P.underlying t=some (.struct fs)) {W:World} {b0:Nat} {v:Value} (hv:Value.okWide P W .any b0 t v)
  {H:Type} {enc:TypeId × Value→H} {d:DataW H} {ps:List MemPlace} (h:DataW.Trod enc P W 0 (fun _=>true) true t v d ps) (hz: ∀q∈d.weights P t,q≤reachBytes):
  ∃a:α,S a∧jy (fun _=>none) (Gh W) W (.agg ((List.range n).map fun j=> .d (c a j))) v:=by
 obtain⟨cs,rfl,hsz⟩:=okWide_struct ht hv
 obtain⟨fuel,hf⟩:=h
 obtain⟨a,ha,hl,hc⟩:=hr.rd hf hz
 refine⟨a,ha,cs.toList,by simp,dN.tu (by rw [List.length_map,List.length_range];exact hl) fun j x hx=> ?_⟩
 have hj:j<n:=by
  have:=(List.getElem?_eq_some_iff.mp hx).1
  simpa using this
 obtain⟨u,hu,hru⟩:=hc j hj
 refine⟨u,hu, ?_⟩
 simp [hj]at hx
 subst hx
 exact hru
theorem Rz.one {α:Type} {c:α→Nat→DV} {S:α→Prop} (hr:Rz P t 1 c S) {W:World} {v:Value} (hv:v.cells.toList=[v])
  {H:Type} {enc:TypeId × Value→H} {d:DataW H} {ps:List MemPlace} (h:DataW.Trod enc P W 0 (fun _=>true) true t v d ps) (hz: ∀q∈d.weights P t,q≤reachBytes): ∃a:α,S a∧jy (fun _=>none) (Gh W) W (.one (.d (c a 0))) v:=by
 obtain⟨fuel,hf⟩:=h
 rw [hv]at hf
 obtain⟨a,ha,hl,hc⟩:=hr.rd hf hz
 obtain⟨u,hu,hru⟩:=hc 0 (by omega)
 simp at hu;subst hu
 exact⟨a,ha,hru⟩
end
def mD (n b:Nat):Bool:=decide (n / 2 ^ b % 2=1)
theorem abv: ∀(k:Nat) (C:Nat→Bool),∃n,n<2 ^ k∧ ∀b,b<k→mD n b=C b
 |0,C=> ⟨0,by simp,fun b hb=>by omega⟩
 |k+1,C=>by
  obtain⟨n,h1,h2⟩:=abv k fun b=>C (b+1)
  refine⟨2*n+(if C 0=true then 1 else 0), ?_,fun b hb=> ?_⟩
  ·rw [Nat.pow_succ];split<;>omega
  ·match b,hb with
   |0,_=>
    unfold mD
    rw [Nat.pow_zero,Nat.div_one]
    cases C 0
    ·rw [if_neg (by simp)];exact decide_eq_false (by omega)
    ·rw [if_pos rfl];exact decide_eq_true (by omega)
   |b+1,hb=>
    have:mD (2*n+(if C 0=true then 1 else 0)) (b+1)=mD n b:=by
     unfold mD
     rw [Nat.pow_succ,Nat.mul_comm (2 ^ b) 2,←Nat.div_div_eq_div_mul]
     have:(2*n+(if C 0=true then 1 else 0)) / 2=n:=by split<;>omega
     rw [this]
    rw [this,h2 b (by omega)]
theorem YA (n b:Nat) (hb:b<64):decide (Int.tmod (Int.fdiv (n:Int) (2 ^ min b (IntKind.bits .i64))) 2=1)=mD n b:=by
 have e0:min b (IntKind.bits .i64)=b:=by show min b 64=b;omega
 rw [e0]
 have e1:Int.fdiv (n:Int) (2 ^ b)=((n / 2 ^ b:Nat):Int):=by
  rw [Int.fdiv_eq_ediv_of_nonneg _ (by exact_mod_cast Nat.zero_le (2 ^ b))]
  exact_mod_cast rfl
 rw [e1]
 unfold mD
 have e2:Int.tmod ((n / 2 ^ b:Nat):Int) 2=((n / 2 ^ b % 2:Nat):Int):=rfl
 rw [e2]
 exact decide_eq_decide.mpr (by omega)
theorem Ow {p:au} {s:aA} (hp:VP p) {C D:Nat→Bool} (h: ∀b:Nat,(b:Int)<p.ax→C b=D b):rF p s C=rF p s D:=by
 have e1:bQ p.ah.length (QX p s C)=bQ p.ah.length (QX p s D):=dI fun k hk=>by
  have:=(hp.src k hk).bus
  unfold QX;rw [h _ (by omega)]
 have e2:bQ p.ai.length (QU p s C)=bQ p.ai.length (QU p s D):=dI fun k hk=>by
  have ha:=(hp.lnk k hk).a;have hb:=(hp.lnk k hk).b
  unfold QU;rw [h _ (by omega),h _ (by omega)]
 have e3:bQ p.af.length (RB p C)=bQ p.af.length (RB p D):=dI fun k hk=>by
  have ha:=(hp.rck k hk).e0;have hb:=(hp.rck k hk).e1
  unfold RB rkC
  rw [h _ (by omega)]
  by_cases h0:0≤(at' p.af k).aC.e1
  ·rw [h _ (by omega)]
  ·rw [decide_eq_false h0];rfl
 unfold rF;rw [e1,e2,e3]
def CG (s:aA) (n:Nat):Nat→Bool
 |0=>true
 |k+1=>CG s n k && !(mD n k && at' s.aW k)
theorem O7 {s:aA} {n:Nat}: ∀{k:Nat},CG s n k=true↔ ∀b,b<k→mD n b=true→at' s.aW b=false
 |0=> ⟨fun _ b hb=>by omega,fun _=>rfl⟩
 |k+1=>by
  unfold CG
  rw [Bool.and_eq_true,O7]
  constructor
  ·rintro ⟨h1,h2⟩ b hb hc
   by_cases e:b=k
   ·subst e;rw [hc]at h2;simpa using h2
   ·exact h1 b (by omega) hc
  ·intro h
   refine⟨fun b hb=>h b (by omega), ?_⟩
   cases hc:mD n k with
   |false=>rfl
   |true=>rw [h k (by omega) hc];rfl
section
variable {p:au} {s:aA} (hp:VP p) (hs:VS p s)
include hp hs
theorem abQ (n:Nat):bB (lJ p s (n:Int)) FUEL (List.replicate p.ax.toNat false,true,0)=some (.brk (tab p.ax.toNat (mD n),CG s n p.ax.toNat)):=by
 have hb:=hp.b;have h4:=hs.aW
 have e0:List.replicate p.ax.toNat false=tab p.ax.toNat fun b=>if b<0 then mD n b else false:=by rw [XW];exact xW fun b _=>by simp
 rw [e0]
 refine iy (fun k=>(tab p.ax.toNat (fun b=>if b<k then mD n b else false),CG s n k,(k:Int))) p.ax.toNat _ (fuel_lt (by omega)) (fun k hk=> ?_) ?_
 ·have ht:(tab p.ax.toNat (fun b=>if b<k then mD n b else false)).set k (mD n k)=tab p.ax.toNat (fun b=>if b<k+1 then mD n b else false):=by
   rw [Ya]
   refine xW fun b hb2=> ?_
   by_cases e:b=k
   ·subst e;rw [if_pos rfl,if_pos (by omega)]
   ·rw [if_neg e]
    by_cases e2:b<k
    ·rw [if_pos e2,if_pos (by omega)]
    ·rw [if_neg e2,if_neg (by omega)]
  unfold lJ
  dsimp only
  rw [Int.toNat_natCast,YA n k (by omega),Iy (by omega),cond_true,aG ⟨by omega,by omega,by rw [fw];omega⟩,ht,uR (by omega),if_pos (by omega),aG ⟨fun _=>by rw [fw];omega,fun _=>by omega⟩,wr (x:=(k:Int)+1) (by omega),tZ]
  have:(bif CG s n k then !(bif mD n k then at' s.aW k else false)else false)=CG s n (k+1):=by
   show _=(CG s n k && !(mD n k && at' s.aW k))
   cases CG s n k<;>cases mD n k<;>rfl
  rw [this]
 ·unfold lJ
  dsimp only
  rw [SK (by omega),cond_false]
  refine congrArg (fun l=>some (aY.done (Ex.brk (l,_)))) (xW fun b hb2=> ?_)
  rw [if_pos hb2]
theorem abm (f g:Nat→Bool):bB (lS p (tab p.ax.toNat g)) FUEL (tab p.ax.toNat f,0)=some (.brk (tab p.ax.toNat fun b=>f b && g b)):=by
 have hb:=hp.b
 have e0:tab p.ax.toNat f=tab p.ax.toNat fun b=>if b<0 then f b && g b else f b:=xW fun b _=>by simp
 rw [e0]
 refine iy (fun k=>(tab p.ax.toNat (fun b=>if b<k then f b && g b else f b),(k:Int))) p.ax.toNat _ (fuel_lt (by omega)) (fun k hk=> ?_) ?_
 ·unfold lS
  dsimp only
  rw [Int.toNat_natCast,Iy (by omega),cond_true,aG ⟨by rw [fw];omega,fun _=>by rw [fw];omega⟩,uR (by omega),uR (by omega),if_neg (Nat.lt_irrefl _),wr (x:=(k:Int)+1) (by omega),Ya,tZ]
  refine congrArg (fun l=>some (aY.next (l,_))) (xW fun b hb2=> ?_)
  by_cases e:b=k
  ·subst e;rw [if_pos rfl,if_pos (by omega)];cases f b<;>rfl
  ·rw [if_neg e]
   by_cases e2:b<k
   ·rw [if_pos e2,if_pos (by omega)]
   ·rw [if_neg e2,if_neg (by omega)]
 ·unfold lS
  dsimp only
  rw [SK (by omega),cond_false]
  refine congrArg (fun l=>some (aY.done (Ex.brk l))) (xW fun b hb2=> ?_)
  rw [if_pos hb2]
def LI (p:au) (s:aA) (n:Nat) (least:Int) (out:List Bool):Prop:=
 ∃f:Nat→Bool,out=tab p.ax.toNat f∧((least= -1∧ ∀i,i<n→CG s i p.ax.toNat=false)∨
  (0≤least∧(∃i,i<n∧CG s i p.ax.toNat=true∧rF p s (mD i)=least)∧(∀i,i<n→CG s i p.ax.toNat=true→least≤rF p s (mD i))∧ ∀b,b<p.ax.toNat→(f b=true↔ ∀i,i<n→CG s i p.ax.toNat=true→rF p s (mD i)=least→mD i b=true)))
theorem Ve (C:Nat→Bool):0≤rF p s C:=by
 have h1:=AB (n:=p.ah.length) (f:=QX p s C) fun i hi=>(Xo hp C hi).1
 have h2:=AB (n:=p.ai.length) (f:=QU p s C) fun i hi=>(WW hp C hi).1
 have h3:=AB (n:=p.af.length) (f:=RB p C) fun i hi=>(acd hp C hi).1
 unfold rF;omega
theorem WX {n:Nat} (hn:n<2 ^ p.ax.toNat) (h10:p.ax≤10) {least:Int} {out:List Bool} (h:LI p s n least out): ∃least' out',iL p s (least,out,(n:Int))=some (.next (least',out',((n+1:Nat):Int)))∧LI p s (n+1) least' out':=by
 have hb:=hp.b
 obtain⟨f,rfl,h⟩:=h
 have hpow:2 ^ p.ax.toNat≤1024:=Nat.pow_le_pow_right (show 0<2 by omega) (show p.ax.toNat≤10 by omega)
 have e1:IntKind.wrap .i64 ((1:Int)*2 ^ min p.ax.toNat (IntKind.bits .i64))=((2 ^ p.ax.toNat:Nat):Int):=by
  have:min p.ax.toNat (IntKind.bits .i64)=p.ax.toNat:=by show min p.ax.toNat 64=_;omega
  rw [this,Int.one_mul]
  have e:(2:Int) ^ p.ax.toNat=((2 ^ p.ax.toNat:Nat):Int):=by simp
  rw [e]
  generalize 2 ^ p.ax.toNat=P at hpow
  exact wr (by omega)
 have hcap:jE p s (tab p.ax.toNat (mD n))=some (rF p s (mD n)):=by
  rw [ZW hp hs (by rw [fw];omega)]
  exact congrArg some (Ow hp fun b hb2=>uR (by omega))
 have hnn:=Ve hp hs (mD n)
 have body:iL p s (least,tab p.ax.toNat f,(n:Int))=some (.next (
   if CG s n p.ax.toNat=false then(least,tab p.ax.toNat f,((n+1:Nat):Int))else
   if least<0∨rF p s (mD n)<least then(rF p s (mD n),tab p.ax.toNat (mD n),((n+1:Nat):Int))else
   if rF p s (mD n)=least then(least,tab p.ax.toNat (fun b=>f b && mD n b),((n+1:Nat):Int))else(least,tab p.ax.toNat f,((n+1:Nat):Int)))):=by
  unfold iL
  dsimp only
  rw [aG (by omega),e1,Iy (by omega),cond_true,aG ⟨by omega,by omega,by omega⟩,abQ hp hs n,wr (x:=(n:Int)+1) (by omega),tZ]
  simp only [Option.bind_some]
  cases hr:CG s n p.ax.toNat with
  |false=>rfl
  |true=>
   rw [Bool.not_true,cond_false,hcap,Option.bind_some,if_neg (by simp)]
   by_cases c1:least<0
   ·rw [decide_eq_true c1,if_pos (.inl c1)];rfl
   ·rw [decide_eq_false c1,cond_false]
    by_cases c2:rF p s (mD n)<least
    ·rw [decide_eq_true c2,if_pos (.inr c2)];rfl
    ·rw [decide_eq_false c2,cond_false,if_neg (fun q=>q.elim c1 c2)]
     by_cases c3:rF p s (mD n)=least
     ·rw [decide_eq_true c3,cond_true,abm hp hs,if_pos c3];rfl
     ·rw [decide_eq_false c3,cond_false,if_neg c3];rfl
 rw [body]
 have lt1: ∀i,i<n+1→i<n∨i=n:=fun i hi=>by omega
 cases hr:CG s n p.ax.toNat with
 |false=>
  refine⟨least,tab p.ax.toNat f,rfl,f,rfl, ?_⟩
  rcases h with⟨h1,h2⟩|⟨h1,⟨i0,h2,h3,h4⟩,h5,h6⟩
  ·exact .inl ⟨h1,fun i hi=>(lt1 i hi).elim (h2 i) fun e=>e ▸ hr⟩
  ·refine .inr ⟨h1,⟨i0,by omega,h3,h4⟩,fun i hi hri=> ?_,fun b hb2=>(h6 b hb2).trans ⟨fun g i hi hri hc=> ?_,fun g i hi=>g i (by omega)⟩⟩
   ·rcases lt1 i hi with hi|rfl
    ·exact h5 i hi hri
    ·rw [hr]at hri;cases hri
   ·rcases lt1 i hi with hi|rfl
    ·exact g i hi hri hc
    ·rw [hr]at hri;cases hri
 |true=>
  rw [if_neg (by simp)]
  by_cases c1:least<0∨rF p s (mD n)<least
  ·rw [if_pos c1]
   have small: ∀i,i<n→CG s i p.ax.toNat=true→rF p s (mD n)<rF p s (mD i):=fun i hi hri=>by
    rcases h with⟨h1,h2⟩|⟨h1,_,h5,_⟩
    ·rw [h2 i hi]at hri;cases hri
    ·have:=h5 i hi hri;omega
   refine⟨_,_,rfl,mD n,rfl, .inr ⟨hnn,⟨n,by omega,hr,rfl⟩,fun i hi hri=> ?_,fun b hb2=> ⟨fun g i hi hri hc=> ?_,fun g=>g n (by omega) hr rfl⟩⟩⟩
   ·rcases lt1 i hi with hi|rfl
    ·have:=small i hi hri;omega
    ·exact Int.le_refl _
   ·rcases lt1 i hi with hi|rfl
    ·have:=small i hi hri;omega
    ·exact g
  ·rw [if_neg c1]
   rcases h with⟨h1,h2⟩|⟨h1,⟨i0,h2,h3,h4⟩,h5,h6⟩
   ·exact absurd (.inl (by omega)) c1
   ·by_cases c3:rF p s (mD n)=least
    ·rw [if_pos c3]
     refine⟨_,_,rfl,_,rfl, .inr ⟨h1,⟨i0,by omega,h3,h4⟩,fun i hi hri=> ?_,fun b hb2=> ?_⟩⟩
     ·rcases lt1 i hi with hi|rfl
      ·exact h5 i hi hri
      ·omega
     ·rw [Bool.and_eq_true,h6 b hb2]
      exact⟨fun g i hi hri hc=>(lt1 i hi).elim (fun hi=>g.1 i hi hri hc) fun e=>e ▸ g.2,fun g=> ⟨fun i hi=>g i (by omega),g n (by omega) hr c3⟩⟩
    ·rw [if_neg c3]
     refine⟨_,_,rfl,_,rfl, .inr ⟨h1,⟨i0,by omega,h3,h4⟩,fun i hi hri=> ?_,fun b hb2=>(h6 b hb2).trans ⟨fun g i hi hri hc=> ?_,fun g i hi=>g i (by omega)⟩⟩⟩
     ·rcases lt1 i hi with hi|rfl
      ·exact h5 i hi hri
      ·omega
     ·rcases lt1 i hi with hi|rfl
      ·exact g i hi hri hc
      ·exact absurd hc c3
theorem Pq (h10:p.ax≤10) {x:aD} {cut:List Bool} (h:Sv p s x cut):kK p s=some (Vv p x,cut):=by
 have hb:=hp.b
 have hpow:2 ^ p.ax.toNat≤1024:=Nat.pow_le_pow_right (show 0<2 by omega) (show p.ax.toNat≤10 by omega)
 have e1:IntKind.wrap .i64 ((1:Int)*2 ^ min p.ax.toNat (IntKind.bits .i64))=((2 ^ p.ax.toNat:Nat):Int):=by
  have:min p.ax.toNat (IntKind.bits .i64)=p.ax.toNat:=by show min p.ax.toNat 64=_;omega
  rw [this,Int.one_mul]
  have e:(2:Int) ^ p.ax.toNat=((2 ^ p.ax.toNat:Nat):Int):=by simp
  rw [e]
  generalize 2 ^ p.ax.toNat=P at hpow
  exact wr (by omega)
 have key:=vF (body:=iL p s)
  (fun z:Int × List Bool × Int=> ∃n:Nat,z.2.2=(n:Int)∧n≤2 ^ p.ax.toNat∧LI p s n z.1 z.2.1)
  (fun z=>2 ^ p.ax.toNat - z.2.2.toNat)
  (fun r:Ex (Int × List Bool) (Int × List Bool)=> ∃l o,r= .brk (l,o)∧LI p s (2 ^ p.ax.toNat) l o)
  (fun z hI=> ?_)
 ·obtain⟨r,e,l,o,rfl,f,rfl,hl⟩:=key FUEL (-1,List.replicate p.ax.toNat false,0) ⟨0,rfl,Nat.zero_le _,fun _=>false,XW _ _, .inl ⟨rfl,fun i hi=>by omega⟩⟩ (by show 2 ^ p.ax.toNat - _<FUEL;unfold FUEL;omega)
  unfold kK
  rw [aG ⟨by omega,by omega,by omega⟩,e]
  show some (l,tab p.ax.toNat f)=_
  obtain⟨i0,g1,g2⟩:=abv p.ax.toNat (at' cut)
  have g3:CG s i0 p.ax.toNat=true:=O7.2 fun b hb2 hc=>h.rt b (by omega) (by rw [←g2 b hb2];exact hc)
  have g4:rF p s (mD i0)=Vv p x:=by rw [h.eq];exact Ow hp fun b hb2=>g2 b (by omega)
  have rg: ∀i,CG s i p.ax.toNat=true→RA p s (mD i):=fun i hi b hb2 hc=>O7.1 hi b (by omega) hc
  rcases hl with⟨h1,h2⟩|⟨h1,⟨i1,h2,h3,h4⟩,h5,h6⟩
  ·rw [h2 i0 g1]at g3;cases g3
  ·have q1:=h5 i0 g1 g3
   have q2:=afY hp hs h.ps (rg i1 h3)
   have el:l=Vv p x:=by omega
   subst el
   refine congrArg (fun o=>some (_,o)) (IX (by rw [fw,h.cl]) fun b hb2=> ?_)
   rw [fw]at hb2
   rw [uR hb2]
   have:f b=true↔at' cut b=true:=(h6 b hb2).trans ⟨fun g=>by rw [←g2 b hb2];exact g i0 g1 g3 g4,fun g i hi hri hc=>h.least _ (rg i hri) hc.symm b (by omega) g⟩
   cases hc:at' cut b with
   |true=>exact this.2 hc
   |false=>cases hf:f b with
    |false=>rfl
    |true=>rw [this.1 hf]at hc;cases hc
 ·obtain⟨l,o,t⟩:=z
  obtain⟨n,rfl,hn,hL⟩:=hI
  dsimp only at hL ⊢
  by_cases hn2:n<2 ^ p.ax.toNat
  ·left
   obtain⟨l',o',e,h'⟩:=WX hp hs hn2 h10 hL
   refine⟨_,e,⟨n+1,rfl,by omega,h'⟩, ?_⟩
   show 2 ^ p.ax.toNat - (((n+1:Nat):Int)).toNat<2 ^ p.ax.toNat - (n:Int).toNat
   omega
  ·right
   have:n=2 ^ p.ax.toNat:=by omega
   subst this
   unfold iL
   dsimp only
   rw [aG (by omega),e1,SK (by omega),cond_false]
   exact⟨_,rfl,l,o,rfl,hL⟩
end
theorem E5 {α:Type} [Inhabited α] {ρ:Type} {body:Int→Option (aY Int (Ex Unit ρ))} (l:List α) (hl:l.length≤9223372036854775807) (hb: ∀t:Nat,t<l.length→body (t:Int)=some (.next ((t:Int)+1))) (he:body (l.length:Int)=some (.done (.brk ()))):bB body FUEL 0=some (.brk ()):=
 iy (fun t=>(t:Int)) l.length _ (fuel_lt hl) (fun t ht=>by rw [hb t ht];rfl) he
theorem jD (a b:List Bool) (ha:a.length≤9223372036854775807):dD a b=some (decide (a=b)):=by
 unfold dD
 by_cases hl:a.length=b.length
 ·have h1:decide ((a.length:Int)=(b.length:Int))=true:=decide_eq_true (by omega)
  rw [h1]
  simp only [Bool.not_true,cond_false]
  have key:bB (jr a b) FUEL 0=some (match(List.range a.length).find? (fun i=> !(at' a i==at' b i))with|some _=> .ret false|none=> .brk ()):=by
   refine jC a.length (fun i=> !(at' a i==at' b i)) (fun _=>false) ha (fun i hi=> ?_) ?_
   ·unfold jr
    have h1:decide ((i:Int)<(a.length:Int))=true:=decide_eq_true (by omega)
    rw [h1,cond_true,aG (by omega),Int.toNat_natCast,wr (by omega)]
    exact NS _ _ _
   ·unfold jr;simp
  rw [key]
  cases hf:(List.range a.length).find? (fun i=> !(at' a i==at' b i))with
  |none=>
   rw [List.find?_eq_none]at hf
   have:a=b:=IX hl fun i hi=>by
    have:=hf i (List.mem_range.mpr hi);simpa using this
   simp [this]
  |some k=>
   have hk:=List.mem_of_find?_eq_some hf
   have hp:=List.find?_some hf
   have:a≠b:=by intro e;subst e;simp at hp
   simp [this]
 ·have h1:decide ((a.length:Int)=(b.length:Int))=false:=decide_eq_false (by omega)
  have h2:a≠b:=fun e=>hl (by rw [e])
  rw [h1];simp [h2]
structure aaT (s:aA):Prop where
 l0:s.bH.length≤140737488351232
 l1:s.bZ.length≤140737488351232
 l2:s.bN.length≤140737488351232
 l3:s.on_.length≤140737488351232
 l4:s.bD.length≤140737488351232
 l5:s.cK.length≤140737488351232
 l6:s.aW.length≤140737488351232
theorem jf (l:List Bool) (h:l.length≤140737488351232):dY l=some l:=by
 unfold dY;rw [aG (by omega)]
theorem Oo (s:aA) (h:aaT s):nG s=some s:=by
 obtain⟨h0,h1,h2,h3,h4,h5,h6⟩:=h
 unfold nG
 rw [jf _ h0,jf _ h1,jf _ h2,jf _ h3,jf _ h4,jf _ h5,jf _ h6]
 rfl
theorem Po (a:aA) (h:aaT a):mY a a=some true:=by
 obtain⟨h0,h1,h2,h3,h4,h5,h6⟩:=h
 unfold mY
 rw [jD _ _ (by omega),jD _ _ (by omega),jD _ _ (by omega),jD _ _ (by omega),jD _ _ (by omega),jD _ _ (by omega),jD _ _ (by omega)]
 simp [gB]
theorem PY (x:aH) (h:x.trip.length≤8796093021952):pu x=some x:=by
 unfold pu qU
 rw [aG (by omega)];rfl
theorem OE (p:au) (h1:p.ah.length≤60) (h2:p.ai.length≤60) (h3:p.af.length≤60) (h4: ∀x∈p.ai,x.trip.length≤8796093021952):nC p=some p:=by
 have key:bB (gK p.ai) FUEL (p.ai.take 0,((0:Nat):Int))=some (.brk (p.ai.take p.ai.length)):=by
  refine iy (body:=gK p.ai) (fun t=>(p.ai.take t,(t:Int))) p.ai.length _ (fuel_lt (by omega)) (fun t ht=> ?_) ?_
  ·unfold gK
   have d1:decide ((t:Int)<(p.ai.length:Int))=true:=decide_eq_true (by omega)
   simp only [d1,cond_true,Int.toNat_natCast]
   have:=h4 _ (at_mem ht)
   rw [PY _ (by omega),Option.bind_some,aG ⟨by omega,by rw [List.length_take,List.length_singleton];omega,by rw [List.length_take,List.length_singleton];omega⟩,wr (by omega),Sl ht]
   rfl
  ·unfold gK
   have d1:decide ((p.ai.length:Int)<(p.ai.length:Int))=false:=decide_eq_false (by omega)
   simp only [d1,cond_false]
 have key':bB (gK p.ai) FUEL ([],0)=_:=key
 unfold nC ol qO qM
 rw [aG (by omega),key',aG (by omega),List.take_length]
 rfl
theorem NT (l:List dV) (h:l.length≤8796093021952):ng l l=some true:=by
 unfold ng
 rw [E5 (body:=jL l l) l (by omega) (fun t ht=> ?_) (by unfold jL;simp)]
 ·simp
 ·unfold jL
  rw [decide_eq_true (show(t:Int)<(l.length:Int) by omega),cond_true,aG ⟨by omega,by omega⟩,wr (by omega)]
  simp
theorem KY (l:List ay) (h:l.length≤1000):kF l l=some true:=by
 unfold kF
 rw [E5 (body:=iT l l) l (by omega) (fun t ht=> ?_) (by unfold iT;simp)]
 ·simp
 ·unfold iT
  rw [decide_eq_true (show(t:Int)<(l.length:Int) by omega),cond_true,aG ⟨by omega,by omega⟩,wr (by omega)]
  simp
theorem Ov (l:List aK) (h:l.length≤1000):mW l l=some true:=by
 unfold mW
 rw [E5 (body:=jQ l l) l (by omega) (fun t ht=> ?_) (by unfold jQ;simp)]
 ·simp
 ·unfold jQ
  rw [decide_eq_true (show(t:Int)<(l.length:Int) by omega),cond_true,aG ⟨by omega,by omega⟩,wr (by omega)]
  simp
theorem P7 (x:aH) (h:x.trip.length≤8796093021952):o9 x x=some true:=by
 unfold o9
 rw [NT _ h];simp [gB]
theorem Nz (l:List aH) (h:l.length≤1000) (ht: ∀x∈l,x.trip.length≤8796093021952):nH l l=some true:=by
 unfold nH
 rw [E5 (body:=jT l l) l (by omega) (fun t htl=> ?_) (by unfold jT;simp)]
 ·simp
 ·unfold jT
  rw [decide_eq_true (show(t:Int)<(l.length:Int) by omega),cond_true,Int.toNat_natCast,P7 _ (ht _ (at_mem htl)),Option.bind_some,aG ⟨by omega,by omega⟩,wr (by omega)]
  rfl
theorem NZ (p:au) (h1:p.ah.length≤60) (h2:p.ai.length≤60) (h3:p.af.length≤60) (h4: ∀x∈p.ai,x.trip.length≤8796093021952):nE p p=some true:=by
 unfold nE
 rw [KY _ (by omega),Nz _ (by omega) h4,Ov _ (by omega)]
 simp [gB]
theorem Np {α ρ:Type} {body:List α × Int→Option (aY (List α × Int) (Ex (List α) ρ))} (n:Nat) (f:Nat→List α) (l0:List α) (hn:n≤1000) (h0:l0.length≤1000) (hf: ∀i,i<n→(f i).length≤1)
  (hb: ∀(i:Nat) (l:List α),i<n→l.length≤2000→body (l,(i:Int))=some (.next (l++f i,((i+1:Nat):Int)))) (he: ∀l,body (l,(n:Int))=some (.done (.brk l))):
  bB body FUEL (l0,0)=some (.brk (l0++(List.range n).flatMap f)):=by
 have hlen: ∀k,k≤n→((List.range k).flatMap f).length≤k:=fun k=>by
  induction k with
  |zero=>intro _;simp
  |succ k ih=>
   intro hk
   rw [List.range_succ,List.flatMap_append,List.length_append]
   have:=ih (by omega)
   have h1:=hf k (by omega)
   have:([k].flatMap f).length≤1:=by simpa using h1
   omega
 have key:bB body FUEL (l0++(List.range 0).flatMap f,((0:Nat):Int))=some (.brk (l0++(List.range n).flatMap f)):=by
  refine iy (fun k=>(l0++(List.range k).flatMap f,(k:Int))) n _ (fuel_lt (by omega)) (fun k hk=> ?_) (he _)
  have:=hlen k (by omega)
  rw [hb k _ hk (by rw [List.length_append];omega),List.range_succ,List.flatMap_append,List.append_assoc]
  simp
 simpa using key
def tgS (p:au) (s:aA) (C:Nat→Bool) (k:Nat):List aM:=if(bY p s k && !C (at' p.ah k).bus.toNat)=true then [⟨2,(k:Int)⟩]else []
def tgL (p:au) (s:aA) (C:Nat→Bool) (k:Nat):List aM:=if(bX p s k && !(C (at' p.ai k).a.toNat==C (at' p.ai k).b.toNat))=true then [⟨3,(k:Int)⟩]else []
def tgF (p:au) (s:aA) (C:Nat→Bool):List aM:=(List.range p.ah.length).flatMap (tgS p s C)++(List.range p.ai.length).flatMap (tgL p s C)
theorem JJ (p:au) (s:aA) (C:Nat→Bool) (k:Nat):(tgS p s C k).length≤1:=by unfold tgS;split<;>simp
theorem Nl (p:au) (s:aA) (C:Nat→Bool) (k:Nat):(tgL p s C k).length≤1:=by unfold tgL;split<;>simp
theorem xX {α:Type} {f:Nat→List α} (h: ∀k,(f k).length≤1): ∀n,((List.range n).flatMap f).length≤n
 |0=>by simp
 |n+1=>by
  rw [List.range_succ,List.flatMap_append,List.length_append]
  have:=xX h n
  have:([n].flatMap f).length≤1:=by simpa using h n
  omega
section
variable {p:au} {s:aA} (hp:VP p) (hs:VS p s)
include hp hs
theorem Xc {cut:List Bool} (hc:(cut.length:Int)=p.ax):lF p.ax p.ah p.ai p.af s.bH s.bZ s.bN s.on_ s.bD s.cK s.aW cut []=some (tgF p s (at' cut)):=by
 unfold lF
 have hsl:=hp.sl;have hll:=hp.ll;have hrl:=hp.rl
 have l1:=xX (JJ p s (at' cut)) p.ah.length
 have l2:=xX (Nl p s (at' cut)) p.ai.length
 rw [Np p.ah.length (tgS p s (at' cut)) [] (by omega) (by simp) (fun i _=>JJ _ _ _ _) (fun k l hk hl=> ?_) (fun l=>by unfold kR;simp)]
 rotate_left
 ·have hf:iP ⟨p.ax,p.ah,p.ai,p.af⟩ ⟨s.bH,s.bZ,s.bN,s.on_,s.bD,s.cK,s.aW⟩ (k:Int)=some (bY p s k):=J5 hp hs hk
  have hv:=(hp.src k hk).bus
  unfold kR fV tgS
  dsimp only
  rw [Int.toNat_natCast,Iy (by omega),cond_true,aG (by omega),hf,Option.bind_some,wr (x:=(k:Int)+1) (by omega),tZ]
  have q:(0:Int)≤(at' p.ah k).bus∧(at' p.ah k).bus<(cut.length:Int):=by omega
  cases bY p s k<;>cases at' cut (at' p.ah k).bus.toNat<;>simp only [cond_true,cond_false,Bool.not_true,Bool.not_false,Bool.and_true,Bool.and_false,if_true,Option.bind_some,Bool.false_and,Bool.true_and,show(decide ((2:Int)=0))=false from rfl]
  ·rw [aG fun _=>q];simp
  ·rw [aG fun _=>q];simp
  ·rw [aG ⟨by rw [List.length_singleton];omega,by rw [List.length_singleton];omega⟩,Option.bind_some,aG fun _=>q]
  ·rw [aG fun _=>q];simp
 simp only [Option.bind_some,List.nil_append]
 rw [Np p.ai.length (tgL p s (at' cut)) _ (by omega) (by omega) (fun i _=>Nl _ _ _ _) (fun k l hk hl=> ?_) (fun l=>by unfold kT;simp)]
 rotate_left
 ·have hf:eH ⟨p.ax,p.ah,p.ai,p.af⟩ ⟨s.bH,s.bZ,s.bN,s.on_,s.bD,s.cK,s.aW⟩ (k:Int)=some (bX p s k):=LM hp hs hk
  have ha:=(hp.lnk k hk).a;have hb:=(hp.lnk k hk).b
  unfold kT fV tgL
  dsimp only
  rw [Int.toNat_natCast,Iy (by omega),cond_true,aG (by omega),hf,Option.bind_some,wr (x:=(k:Int)+1) (by omega),tZ]
  have q:(0:Int)≤(at' p.ai k).a∧(at' p.ai k).a<(cut.length:Int):=by omega
  have q':(0:Int)≤(at' p.ai k).b∧(at' p.ai k).b<(cut.length:Int):=by omega
  have q2:(l.length+[(⟨3,(k:Int)⟩:aM)].length)*16≤140737488355328∧l.length+[(⟨3,(k:Int)⟩:aM)].length≤4611686018427387904:=⟨by rw [List.length_singleton];omega,by rw [List.length_singleton];omega⟩
  rw [aG q2]
  have q3:(gB [(bX p s k,true)]=true→(0:Int)≤(at' p.ai k).a∧(at' p.ai k).a<(cut.length:Int))∧(gB [(bX p s k,true)]=true→(0:Int)≤(at' p.ai k).b∧(at' p.ai k).b<(cut.length:Int)):=⟨fun _=>q,fun _=>q'⟩
  simp only [aG q3]
  cases bX p s k<;>cases at' cut (at' p.ai k).a.toNat<;>cases at' cut (at' p.ai k).b.toNat<;>first|(exact congrArg (fun z=>some (aY.next (z,_))) (List.append_nil l).symm)|rfl
 simp only [Option.bind_some]
 have key:bB (jq p.af cut) FUEL (tgF p s (at' cut),0)=some (.brk (tgF p s (at' cut))):=by
  refine iy (fun k=>(tgF p s (at' cut),(k:Int))) p.af.length _ (fuel_lt (by omega)) (fun k hk=> ?_) (by unfold jq;simp)
  have hv:=hp.rck k hk;have ha:=hv.e0;have hb:=hv.e1
  have hf: ∃r,dX [(at' p.af k).aC.e0,(at' p.af k).aC.e1] cut=some r:=by
   unfold dX iQ
   rw [CZ [(at' p.af k).aC.e0,(at' p.af k).aC.e1] (fun b=>decide (0≤b) && at' cut b.toNat) id (by simp) (fun i hi=> ?_) (by unfold gU;rfl)]
   ·cases [(at' p.af k).aC.e0,(at' p.af k).aC.e1].findIdx? (fun b=>decide (0≤b) && at' cut b.toNat)<;>exact⟨_,rfl⟩
   ·have hx: -1≤at' [(at' p.af k).aC.e0,(at' p.af k).aC.e1] i∧at' [(at' p.af k).aC.e0,(at' p.af k).aC.e1] i<p.ax:=by
     match i,hi with
     |0,_=>exact(show -1≤(at' p.af k).aC.e0∧(at' p.af k).aC.e0<p.ax by omega)
     |1,_=>exact hb
    unfold gU mO
    rw [Int.toNat_natCast]
    generalize at' [(at' p.af k).aC.e0,(at' p.af k).aC.e1] i=b at hx ⊢
    rw [aG (fun h=> ⟨of_decide_eq_true (gB1 h),by omega⟩)]
    have e:(bif decide (0≤b)then at' cut b.toNat else false)=(decide (0≤b) && at' cut b.toNat):=by cases decide (0≤b)<;>rfl
    rw [e]
    exact Ae hi (by simp) _ id _
  obtain⟨r,hr⟩:=hf
  unfold jq fV
  dsimp only
  rw [Int.toNat_natCast,Iy (by omega),cond_true,aG (by omega),hr,Option.bind_some,wr (x:=(k:Int)+1) (by omega)]
  cases r<;>rfl
 have e:(List.range p.ah.length).flatMap (tgS p s (at' cut))++(List.range p.ai.length).flatMap (tgL p s (at' cut))=tgF p s (at' cut):=rfl
 rw [e,key];rfl
theorem aaD {x:aD} {cut:List Bool} (e:dW p s=some (x,cut,0)) (h:Sv p s x cut):kI p s=some (tgF p s (at' cut),0):=by
 have hb:=hp.b;have hcl:=h.cl
 unfold kI oU
 rw [e,Option.bind_some]
 dsimp only
 rw [decide_eq_true rfl,Bool.not_true,cond_false,Option.bind_some]
 dsimp only
 rw [Xc hp hs (by omega)];rfl
theorem Uo (h10:p.ax≤10) {x:aD} {cut:List Bool} (h:Sv p s x cut):kM p s=some (tgF p s (at' cut),0):=by
 have hb:=hp.b;have hcl:=h.cl
 have hsl:=hp.sl;have hll:=hp.ll
 have l1:=xX (JJ p s (at' cut)) p.ah.length
 unfold kM
 rw [jG p s hp.small,vG.mpr ⟨hp,hs⟩,Option.bind_some,decide_eq_true rfl,Bool.not_true,cond_false,Pq hp hs h10 h,Option.bind_some]
 rw [Np p.ah.length (tgS p s (at' cut)) [] (by omega) (by simp) (fun i _=>JJ _ _ _ _) (fun k l hk hl=> ?_) (fun l=>by unfold pR;simp)]
 rotate_left
 ·have hv:=(hp.src k hk).bus
  unfold pR tgS
  dsimp only
  rw [Int.toNat_natCast,Iy (by omega),cond_true,Fu hp hs hk,Option.bind_some,aG ⟨fun _=>by omega,fun _=>by omega⟩,aG ⟨by rw [List.length_singleton];omega,by rw [List.length_singleton];omega⟩,wr (x:=(k:Int)+1) (by omega),tZ]
  cases bY p s k<;>cases at' cut (at' p.ah k).bus.toNat<;>simp
 simp only [Option.bind_some,List.nil_append]
 rw [Np p.ai.length (tgL p s (at' cut)) _ (by omega) (by omega) (fun i _=>Nl _ _ _ _) (fun k l hk hl=> ?_) (fun l=>by unfold pX;simp)]
 rotate_left
 ·have ha:=(hp.lnk k hk).a;have hbb:=(hp.lnk k hk).b
  unfold pX tgL
  dsimp only
  rw [Int.toNat_natCast,Iy (by omega),cond_true,yU hp hs hk,Option.bind_some,aG ⟨fun _=>by omega,fun _=>by omega,fun _=>by omega⟩,aG ⟨by rw [List.length_singleton];omega,by rw [List.length_singleton];omega⟩,wr (x:=(k:Int)+1) (by omega),tZ]
  cases bX p s k<;>cases at' cut (at' p.ai k).a.toNat<;>cases at' cut (at' p.ai k).b.toNat<;>simp
 rfl
def aiK (p:au):Int:=bQ p.af.length fun r=>(at' p.af r).aV
theorem adj {x:aD} {cut:List Bool} (e:dW p s=some (x,cut,0)) (h:Sv p s x cut):mF p s=some (decide (Vv p x=aiK p),0):=by
 have hrl:=hp.rl
 unfold mF
 rw [e,Option.bind_some]
 dsimp only
 rw [decide_eq_true rfl,Bool.not_true,cond_false,Ak p.af.length (fun r=>(at' p.af r).aV) 0 (by omega) (fun i hi=>by have:=(hp.rck i hi).aV;omega) (by omega) (fun k y hk hy=> ?_) (fun y=>by unfold rO;simp)]
 ·simp only [Option.bind_some]
  rw [h.ps.amount hp hs,Option.bind_some,Int.zero_add];rfl
 ·have hw:=(hp.rck k hk).aV
  unfold rO
  dsimp only
  rw [Int.toNat_natCast,Iy (by omega),cond_true,aG (by omega),wr' (x:=(k:Int)+1) (by omega),wr' (by omega),tZ]
theorem VG (h10:p.ax≤10) {x:aD} {cut:List Bool} (h:Sv p s x cut):mG p s=some (decide (Vv p x=aiK p),0):=by
 have hrl:=hp.rl
 unfold mG
 rw [jG p s hp.small,vG.mpr ⟨hp,hs⟩,Option.bind_some,decide_eq_true rfl,Bool.not_true,cond_false,Ak p.af.length (fun r=>(at' p.af r).aV) 0 (by omega) (fun i hi=>by have:=(hp.rck i hi).aV;omega) (by omega) (fun k y hk hy=> ?_) (fun y=>by unfold qP;simp)]
 ·simp only [Option.bind_some]
  rw [Pq hp hs h10 h,Option.bind_some,Int.zero_add];rfl
 ·have hw:=(hp.rck k hk).aV
  unfold qP
  dsimp only
  rw [Int.toNat_natCast,Iy (by omega),cond_true,aG (by omega),wr' (x:=(k:Int)+1) (by omega),wr' (by omega),tZ]
theorem adI (C:Nat→Bool):(tgF p s C).length≤100:=by
 have hsl:=hp.sl;have hll:=hp.ll
 have l1:=xX (JJ p s C) p.ah.length
 have l2:=xX (Nl p s C) p.ai.length
 unfold tgF;rw [List.length_append];omega
end
theorem Ez (l:List aM) (h:l.length≤100000):jh l l=some true:=by
 unfold jh
 rw [E5 (body:=jN l l) l (by omega) (fun t ht=> ?_) (by unfold jN;simp)]
 ·simp
 ·unfold jN
  rw [decide_eq_true (show(t:Int)<(l.length:Int) by omega),cond_true,aG ⟨by omega,by omega⟩,wr (by omega)]
  simp
theorem MP (p:au) (s:aA) (hp:Small p) (hr:aaT s) (ht: ∀x∈p.ai,x.trip.length≤8796093021952):jS p s=some true:=by
 unfold jS Ay
 rw [acT,Md p hp,Option.bind_some]
 generalize hbig:(bif (bif (decide (60<(p.ah.length:Int)))then true else(decide (60<(p.ai.length:Int))))then true else(decide (60<(p.af.length:Int))))=big
 cases big with
 |true=>rfl
 |false=>
  have h60:p.ah.length≤60∧p.ai.length≤60∧p.af.length≤60:=by
   by_cases c1:60<(p.ah.length:Int)
   ·rw [decide_eq_true c1]at hbig;cases hbig
   ·by_cases c2:60<(p.ai.length:Int)
    ·rw [decide_eq_false c1,decide_eq_true c2]at hbig;cases hbig
    ·by_cases c3:60<(p.af.length:Int)
     ·rw [decide_eq_false c1,decide_eq_false c2,decide_eq_true c3]at hbig;cases hbig
     ·omega
  obtain⟨b1,b2,b3⟩:=h60
  rw [cond_false,Option.bind_some]
  generalize hbig2:(bif decide (uO p=0)then(bif (decide (10<p.ax))then true else(decide (16<(p.ai.length:Int))))else false)=big2
  cases big2 with
  |true=>rfl
  |false=>
   rw [cond_false,OE p b1 b2 b3 ht,Option.bind_some,Oo s hr,Option.bind_some,jG p s hp,NZ p b1 b2 b3 ht,Po s hr]
   by_cases h0:qh p s=0
   ·obtain⟨hv,hs⟩:=vG.mp h0
    have h10:p.ax≤10:=by
     rw [decide_eq_true (ER.mpr hv),cond_true]at hbig2
     by_cases c1:10<p.ax
     ·rw [decide_eq_true c1]at hbig2;cases hbig2
     ·omega
    obtain⟨x,cut,e,h⟩:=abJ hv hs
    rw [e,Option.bind_some,aaD hv hs e h,Option.bind_some,adj hv hs e h,Option.bind_some,Uo hv hs h10 h,Option.bind_some,VG hv hs h10 h,Option.bind_some,h0,Option.bind_some]
    simp only [decide_true,Bool.not_true,cond_false,show gB [(false,false)]=true from rfl,cond_true]
    rw [Ez _ (by have:=adI hv hs (at' cut);omega)]
    simp only [Option.bind_some,Bool.not_true,cond_false,beq_self_eq_true,show gB [(false,false)]=true from rfl,cond_true]
    rw [Pq hv hs h10 h,Option.bind_some,h.ps.amount hv hs,Option.bind_some,jD _ _ (by have:=h.cl;have:=hv.b;omega),IK hp s x]
    unfold aaZ
    rw [if_pos h0,if_pos (h.ps.anY hv hs)]
    simp [gB]
   ·have e:=Yj hp h0
    have e2:kI p s=some ([],qh p s):=by
     unfold kI;rw [e,Option.bind_some];dsimp only;rw [decide_eq_false h0];rfl
    have e3:mF p s=some (false,qh p s):=by
     unfold mF;rw [e,Option.bind_some];dsimp only;rw [decide_eq_false h0];rfl
    have e4:kM p s=some ([],qh p s):=by
     unfold kM;rw [jG p s hp,Option.bind_some,decide_eq_false h0];rfl
    have e5:mG p s=some (false,qh p s):=by
     unfold mG;rw [jG p s hp,Option.bind_some,decide_eq_false h0];rfl
    rw [e,Option.bind_some,e2,Option.bind_some,e3,Option.bind_some,e4,Option.bind_some,e5,Option.bind_some,Option.bind_some]
    simp only [decide_true,Bool.not_true,cond_false,show gB [(false,false)]=true from rfl,cond_true]
    rw [Ez [] (by simp)]
    simp only [Option.bind_some,Bool.not_true,cond_false,beq_self_eq_true,show gB [(false,false)]=true from rfl,cond_true]
    rw [decide_eq_false h0]
    rfl
end Sg
