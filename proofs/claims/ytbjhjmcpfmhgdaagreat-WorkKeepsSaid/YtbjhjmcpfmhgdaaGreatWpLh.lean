import Derived.Test.YtbjhjmcpfmhgdaaGreatWpLg
set_option linter.all false
namespace Sg
open Go
section
variable {y:ah} (Y:Yd y)
include Y
theorem Q9 {parts:List Part} (hn:parts.length≤1000) (hi: ∀x∈parts,pY y.plant x) {least:Int} (h:dN y parts least=some true):lS y parts least=some true:=by
 have hrl:=Y.vp.rl
 have hv:=Sl Y.vp Y.vs Y.tr parts
 obtain⟨L,l1,l2,_⟩:=Bl Y.vp hv
 have htl:(tab y.plant.racks.length (zR y.plant L)).length=y.plant.racks.length:=dD _ _
 unfold dN at h
 rw [JA Y.vp Y.vs Y.tl Y.tr hn hi,Option.bind_some,EI Y.vp hv l1 l2,Option.bind_some]at h
 unfold lS
 rw [JA Y.vp Y.vs Y.tl Y.tr hn hi,Option.bind_some]
 simp only
 rw [EI Y.vp hv l1 l2,Option.bind_some]
 simp only
 simp only [htl,decide_true,Bool.not_true,cond_true,cond_false]
 rcases jb (body:=dV y least (tab y.plant.racks.length (zR y.plant L),0)) y.plant.racks.length (by omega) (fun k=>(bif (bif (decide (least≤((at' y.plant.racks k).paths)))then(!((at' (tab y.plant.racks.length (zR y.plant L)) k).e0))else false)then(!((at' (tab y.plant.racks.length (zR y.plant L)) k).e1))else false)=false) (fun e=>e=false) (fun k hk=>by
  unfold dV
  simp only [Int.toNat_natCast]
  rw [xZ (by omega),cond_true,aj (by omega),aj ⟨fun _=>by omega,fun _=>by omega⟩,wr (by omega)]
  cases hb:(bif (bif (decide (least≤((at' y.plant.racks k).paths)))then(!((at' (tab y.plant.racks.length (zR y.plant L)) k).e0))else false)then(!((at' (tab y.plant.racks.length (zR y.plant L)) k).e1))else false)
  ·exact .inl ⟨rfl,rfl⟩
  ·exact .inr ⟨_,rfl,rfl⟩) (by
  unfold dV
  rw [decide_eq_false (by omega)];rfl)with⟨ho,hg⟩|⟨e,ho,he⟩
 ·have key:aC (jU y least (tab y.plant.racks.length (zR y.plant L),0)) FUEL ((0:Nat):Int)=some (.brk ()):=by
   refine aX (body:=jU y least (tab y.plant.racks.length (zR y.plant L),0)) (fun k=>(k:Int)) y.plant.racks.length _ (fuel_lt (by omega)) (fun k hk=> ?_) ?_
   ·unfold jU
    simp only [Int.toNat_natCast]
    rw [xZ (by omega),cond_true,aj ⟨by omega,fun _=>by omega,fun _=>by omega⟩,wr (by omega),hg k hk];rfl
   ·unfold jU
    simp only
    rw [decide_eq_false (by omega)];rfl
  rw [show aC (jU y least (tab y.plant.racks.length (zR y.plant L),0)) FUEL 0=_ from key];rfl
 ·rw [ho,he]at h
  have h':some false=some true:=h
  cases h'
variable {s:Nat} (hs:s<32) (hJ:s<2 ^ y.jobs.length)
include hs hJ
theorem Lh (h:cF y s=false):qG y s 5≤y.people∧jk y (s:Int)=some true∧iZ y (s:Int)=some true∧dL y (s:Int)=some true:=by
 have h1:=F8 Y hs hJ
 obtain⟨b2,h2,_⟩:=F4 Y hs hJ
 obtain⟨b3,h3⟩:=SX Y hs hJ
 obtain⟨b4,h4⟩:=Cj Y hs hJ
 unfold cF bZ iI ko iL iJ iP at h
 rw [h1,h2,h3,h4]at h
 rw [h2,h3,h4]
 by_cases hm:qG y s 5≤y.people
 ·rw [decide_eq_true hm]at h
  cases b2<;>cases b3<;>cases b4<;>first|exact⟨hm,rfl,rfl,rfl⟩|(exact absurd h (by decide))
 ·rw [decide_eq_false hm]at h
  exact absurd h (by cases b2<;>cases b3<;>cases b4<;>decide)
theorem Ue (h:cF y s=false):qV y (eB y s 5)=some true:=by
 obtain⟨_,r2,r3,r4⟩:=Lh Y hs hJ h
 obtain⟨ol,oi⟩:=tQ Y hJ 5
 have hb:=Y.vp.b;have hsl:=Y.vp.sl;have hll:=Y.vp.ll
 have v7:=Y.vs.badBus;have v3:=Y.vs.badLink;have v5:=Y.vs.badSource
 have hpl:(partsOf y.plant).length≤1000:=by
  unfold partsOf;simp only [List.length_append,dD];omega
 obtain⟨b,hb1,hb2⟩:=F4 Y hs hJ
 have ap:=hb2 (by rw [r2]at hb1;exact(Option.some.inj hb1).symm)
 have k0:aC (iV (eB y s 5)) FUEL ((0:Nat):Int)=some (.brk ()):=by
  refine aX (body:=iV (eB y s 5)) (fun k=>(k:Int)) (eB y s 5).length _ (fuel_lt (by omega)) (fun i hi=> ?_) ?_
  ·have k1:aC (iX (eB y s 5) (i:Int)) FUEL ((0:Nat):Int)=some (.brk ()):=by
    refine aX (body:=iX (eB y s 5) (i:Int)) (fun k=>(k:Int)) i _ (fuel_lt (by omega)) (fun k hk=> ?_) ?_
    ·unfold iX
     simp only [Int.toNat_natCast]
     rw [xZ (by omega),cond_true,aj (by omega),ap i hi k hk,cond_false,wr (by omega)];rfl
    ·unfold iX
     simp only
     rw [decide_eq_false (by omega)];rfl
   unfold iV
   rw [xZ (by omega),cond_true,show aC (iX (eB y s 5) (i:Int)) FUEL 0=_ from k1,Option.bind_some]
   simp only
   rw [wr (by omega)];rfl
  ·unfold iV
   rw [decide_eq_false (by omega)];rfl
 have l1:lS y (eB y s 5) 1=some true:=by
  unfold iZ at r3
  rw [FL Y hs hJ,Option.bind_some]at r3
  obtain⟨q,hq⟩:=IB Y (show(eB y s 5).length≤1000 by omega) oi 1
  rw [hq,Option.bind_some]at r3
  refine Q9 Y (by omega) oi ?_
  rw [hq];exact r3
 unfold qV
 rw [show aC (iV (eB y s 5)) FUEL 0=_ from k0,Option.bind_some]
 simp only
 rw [l1,Option.bind_some,Bool.not_true,cond_false,parts_eq Y.vp,Option.bind_some]
 simp only
 simp only [decide_true,Bool.not_true,cond_false]
 cases hred:y.redundant with
 |false=>
  have e0:dM y (eB y s 5) (partsOf y.plant,0) 0=some (.done (.brk ())):=by
   unfold dM
   rw [hred]
   cases(decide ((0:Int)<((partsOf y.plant).length:Int)))<;>rfl
  have:aC (dM y (eB y s 5) (partsOf y.plant,0)) FUEL 0=some (.brk ()):=by
   unfold FUEL
   rw [aQ,e0]
  rw [this];rfl
 |true=>
  unfold dL at r4
  rw [hred,Bool.not_true,cond_false,parts_eq Y.vp,Option.bind_some]at r4
  have isp: ∀k,k<(partsOf y.plant).length→pY y.plant (at' (partsOf y.plant) k):=fun k hk=>by
   obtain⟨c,j,e,hcj⟩:=xu Y.vp hk
   rw [e]
   refine⟨by show(0:Int)≤(j:Int);omega, ?_⟩
   show(c:Int)=1∧(j:Int)<_∨(c:Int)=2∧(j:Int)<_∨(c:Int)=3∧(j:Int)<_
   omega
  have ok2: ∀k,k<(partsOf y.plant).length→(eB y s 5++[at' (partsOf y.plant) k]).length≤1000∧ ∀x∈eB y s 5++[at' (partsOf y.plant) k],pY y.plant x:=fun k hk=>by
   refine⟨by rw [List.length_append,List.length_singleton];omega,fun x hx=> ?_⟩
   rcases List.mem_append.1 hx with hx|hx
   ·exact oi x hx
   ·rw [List.mem_singleton]at hx;rw [hx];exact isp k hk
  rcases jb (body:=bR y (s:Int) (partsOf y.plant,0)) (partsOf y.plant).length (by omega)
   (fun k=>at' (at' [([]:List Bool),y.state.badBus,y.state.badSource,y.state.badLink] (at' (partsOf y.plant) k).kind.toNat) (at' (partsOf y.plant) k).index.toNat=true∨dN y (eB y s 5++[at' (partsOf y.plant) k]) 2=some true) (fun e=>e=false) (fun k hk=>by
   obtain⟨c,j,e,hcj⟩:=xu Y.vp hk
   obtain⟨b,hb2⟩:=IB Y (ok2 k hk).1 (ok2 k hk).2 2
   unfold bR
   simp only [Int.toNat_natCast]
   rw [xZ (by omega),cond_true,aj (by omega),aj (by
    rw [e]
    simp only [Int.toNat_natCast]
    rcases hcj with⟨rfl,g⟩|⟨rfl,g⟩|⟨rfl,g⟩
    ·exact⟨by simp,by omega,by show(j:Int)<(y.state.badBus.length:Int);omega⟩
    ·exact⟨by simp,by omega,by show(j:Int)<(y.state.badSource.length:Int);omega⟩
    ·exact⟨by simp,by omega,by show(j:Int)<(y.state.badLink.length:Int);omega⟩),FL Y hs hJ,Option.bind_some,hb2,Option.bind_some,wr (by omega)]
   cases hq:at' (at' [([]:List Bool),y.state.badBus,y.state.badSource,y.state.badLink] (at' (partsOf y.plant) k).kind.toNat) (at' (partsOf y.plant) k).index.toNat with
   |true=>exact .inl ⟨rfl, .inl rfl⟩
   |false=>
    rw [Bool.not_false,cond_true,aj ⟨fun _=>by simp only [List.length_singleton];omega,fun _=>by simp only [List.length_singleton];omega⟩]
    cases b
    ·exact .inr ⟨_,rfl,rfl⟩
    ·exact .inl ⟨rfl, .inr rfl⟩) (by
   unfold bR
   simp only
   rw [decide_eq_false (by omega)];rfl)with⟨ho,hg⟩|⟨e,ho,he⟩
  ·have k2:aC (dM y (eB y s 5) (partsOf y.plant,0)) FUEL ((0:Nat):Int)=some (.brk ()):=by
    refine aX (body:=dM y (eB y s 5) (partsOf y.plant,0)) (fun k=>(k:Int)) (partsOf y.plant).length _ (fuel_lt (by omega)) (fun k hk=> ?_) ?_
    ·have d11:decide (((1:Nat):Int)=1)=true:=rfl
     have d12:decide (((1:Nat):Int)=2)=false:=rfl
     have d13:decide (((1:Nat):Int)=3)=false:=rfl
     have d21:decide (((2:Nat):Int)=1)=false:=rfl
     have d22:decide (((2:Nat):Int)=2)=true:=rfl
     have d23:decide (((2:Nat):Int)=3)=false:=rfl
     have d31:decide (((3:Nat):Int)=1)=false:=rfl
     have d32:decide (((3:Nat):Int)=2)=false:=rfl
     have d33:decide (((3:Nat):Int)=3)=true:=rfl
     have gk:=hg k hk
     have ok:=ok2 k hk
     obtain⟨c,j,e,hcj⟩:=xu Y.vp hk
     rw [e]at gk ok
     simp only [Int.toNat_natCast]at gk
     unfold dM
     simp only [Int.toNat_natCast]
     rw [xZ (by omega),cond_true,hred,cond_true,aj (by omega)]
     simp only [e,Int.toNat_natCast]
     have fin: ∀bad:Bool,(bad=true∨dN y (eB y s 5++[⟨(c:Int),(j:Int)⟩]) 2=some true)→
       (bif (!bad)then(iW (eB y s 5)).bind fun r_2=>(lS y (r_2++[⟨(c:Int),(j:Int)⟩]) 2).bind fun r_3=>
        bU ((gB [(true,true)]=true→(r_2.length+[(⟨(c:Int),(j:Int)⟩:Part)].length)*16≤140737488355328)∧(gB [(true,true)]=true→r_2.length+[(⟨(c:Int),(j:Int)⟩:Part)].length≤4611686018427387904)) (
        bif (!r_3)then some (.done (.ret false))else some (.next (IntKind.wrap .i64 ((k:Int)+1))))
       else some (.next (IntKind.wrap .i64 ((k:Int)+1))))=some (aT.next (((k+1:Nat):Int)):aT Int (Ex Unit Bool)):=by
      intro bad hbad
      rw [wr (by omega)]
      cases bad with
      |true=>rfl
      |false=>
       rcases hbad with hbad|hbad
       ·cases hbad
       ·unfold iW
        rw [Bool.not_false,cond_true,aj (by omega),Option.bind_some,Q9 Y ok.1 ok.2 hbad,Option.bind_some,aj ⟨fun _=>by simp only [List.length_singleton];omega,fun _=>by simp only [List.length_singleton];omega⟩];rfl
     rcases hcj with⟨rfl,g⟩|⟨rfl,g⟩|⟨rfl,g⟩
     ·simp only [d11,d12,d13,cond_true,cond_false]
      rw [aj ⟨fun _=>by omega,fun h=>(by simp [gB]at h),fun h=>(by simp [gB]at h)⟩]
      refine Eq.trans ?_ (fin _ gk)
      show _=(bif (!(at' y.state.badBus j))then _ else _)
      cases at' y.state.badBus j<;>rfl
     ·simp only [d21,d22,d23,cond_true,cond_false]
      rw [aj ⟨fun h=>(by simp [gB]at h),fun _=>by omega,fun h=>(by simp [gB]at h)⟩]
      refine Eq.trans ?_ (fin _ gk)
      show _=(bif (!(at' y.state.badSource j))then _ else _)
      cases at' y.state.badSource j<;>rfl
     ·simp only [d31,d32,d33,cond_true,cond_false]
      rw [aj ⟨fun h=>(by simp [gB]at h),fun h=>(by simp [gB]at h),fun _=>by omega⟩]
      refine Eq.trans ?_ (fin _ gk)
      show _=(bif (!(at' y.state.badLink j))then _ else _)
      cases at' y.state.badLink j<;>rfl
    ·unfold dM
     simp only
     rw [decide_eq_false (by omega)];rfl
   rw [show aC (dM y (eB y s 5) (partsOf y.plant,0)) FUEL 0=_ from k2];rfl
  ·rw [ho,he]at r4
   have h':some false=some true:=r4
   cases h'
end
section
variable {y:ah} (Y:Yd y)
include Y
theorem Yt {s:Nat} (h0:s≠0) (h:BF y s=true):cF y s=false:=by
 obtain⟨t,rfl⟩: ∃t,s=t+1:=⟨s - 1,by omega⟩
 unfold BF at h
 rw [Bool.and_eq_true,Bool.not_eq_true']at h
 exact h.2
omit Y in
theorem PV: ∀n,qG y 0 n=0
 |0=>rfl
 |n+1=>by unfold qG;rw [Nat.zero_testBit,if_neg (by decide),PV n]
omit Y in
theorem Rx: ∀n,eB y 0 n=[]
 |0=>rfl
 |n+1=>by unfold eB;rw [Nat.zero_testBit,if_neg (by decide),Rx n]
omit Y in
theorem LQ {s:Nat} (hJ:s<2 ^ y.jobs.length): ∀k,qG y s (y.jobs.length+k)=qG y s y.jobs.length∧eB y s (y.jobs.length+k)=eB y s y.jobs.length
 |0=> ⟨rfl,rfl⟩
 |k+1=>by
  have hb:s.testBit (y.jobs.length+k)=false:=by
   cases h:s.testBit (y.jobs.length+k)with
   |false=>rfl
   |true=>have:=Ep hJ h;omega
  obtain⟨h1,h2⟩:=LQ hJ k
  show qG y s (y.jobs.length+k+1)=_∧eB y s (y.jobs.length+k+1)=_
  rw [qG,eB,hb,if_neg (by decide),if_neg (by decide)]
  exact⟨h1,h2⟩
theorem Ci {st:List Int} (G:pX y st y.jobs.length):kR y st=some (kK y st y.jobs.length):=by
 have jl:=Y.jl
 have hl:=G.len
 have key:aC (ig y st) FUEL (kK y st 0,((0:Nat):Int))=some (.brk (kK y st y.jobs.length)):=by
  refine aX (body:=ig y st) (fun n=>(kK y st n,(n:Int))) y.jobs.length _ (fuel_lt (by omega)) (fun n hn=> ?_) ?_
  ·have:=G.wins Y hn
   unfold ig
   simp only [Int.toNat_natCast]
   rw [xZ (by omega),cond_true,xZ (by omega),cond_true,aj (by omega),wr (x:=(n:Int)+1) (by omega)]
   simp only [wr (x:=at' st n+(at' y.jobs n).hours) (by omega)];rfl
  ·unfold ig
   simp only
   rw [decide_eq_false (show ¬ (y.jobs.length:Int)<(st.length:Int) by omega)];rfl
 unfold kR
 rw [show aC (ig y st) FUEL (0,0)=_ from key];rfl
theorem U9 (a b:List Part) (h:a.length≤1000): ∃c,nu a b=some c:=by
 unfold nu
 by_cases e:(a.length:Int)=(b.length:Int)
 ·rw [decide_eq_true e,Bool.not_true,cond_false]
  obtain⟨o,ho⟩:=Fw (body:=kg a b) a.length (by omega) (fun k hk=>by
   unfold kg
   simp only [Int.toNat_natCast]
   rw [xZ (by omega),cond_true,aj (by omega),wr (by omega)]
   cases((decide (((at' a k).kind)=((at' b k).kind))) && ((decide (((at' a k).index)=((at' b k).index))) && true))
   ·exact .inr ⟨_,rfl⟩
   ·exact .inl rfl) (by
   unfold kg
   rw [decide_eq_false (by omega)];rfl)
  rw [ho]
  cases o<;>exact⟨_,rfl⟩
 ·rw [decide_eq_false e]
  exact⟨_,rfl⟩
variable {st:List Int} (G:pX y st y.jobs.length)
include G
theorem RQ:aC (jK y st) FUEL 0=some (.brk ()):=by
 have jl:=Y.jl
 have hl:=G.len
 refine aX (body:=jK y st) (fun n=>(n:Int)) y.jobs.length _ (fuel_lt (by omega)) (fun n hn=> ?_) ?_
 ·have w:=G.wins Y hn
  have T:=G.tm n hn
  have W:=Y.win n hn
  have al:=W.al
  have t1:=T.fr;have t2:=T.to
  have k1:aC (ic y st (n:Int)) FUEL ((0:Nat):Int)=some (.brk ()):=by
   refine aX (body:=ic y st (n:Int)) (fun k=>(k:Int)) (at' y.jobs n).after.length _ (fuel_lt (by omega)) (fun k hk=> ?_) ?_
   ·have a1:=W.af k hk
    have a2:=T.af k hk
    have w2:=G.wins Y (show(at' (at' y.jobs n).after k).toNat<y.jobs.length by omega)
    have ew:IntKind.wrap .i64 (at' st (at' (at' y.jobs n).after k).toNat+(at' y.jobs (at' (at' y.jobs n).after k).toNat).hours)=at' st (at' (at' y.jobs n).after k).toNat+(at' y.jobs (at' (at' y.jobs n).after k).toNat).hours:=wr (by omega)
    unfold ic
    simp only [Int.toNat_natCast]
    rw [xZ (by omega),cond_true,aj ⟨by omega,fun _=>by omega,fun _=>by omega,fun _=>by omega,fun _=>by omega⟩,decide_eq_false (show ¬ (n:Int)≤at' (at' y.jobs n).after k by omega),cond_false,decide_eq_false (by omega),cond_false,wr (by omega)];rfl
   ·unfold ic
    simp only [Int.toNat_natCast]
    rw [decide_eq_false (by omega)];rfl
  have ew:IntKind.wrap .i64 (at' st n+(at' y.jobs n).hours)=at' st n+(at' y.jobs n).hours:=wr (by omega)
  unfold jK
  simp only [Int.toNat_natCast]
  rw [xZ (by omega),cond_true,aj (by omega),aj ⟨by omega,fun _=>by omega⟩,decide_eq_false (show ¬ at' st n<(at' y.jobs n).from_ by omega),cond_false,decide_eq_false (by omega),cond_false,
   show aC (ic y st (n:Int)) FUEL 0=_ from k1,Option.bind_some]
  simp only
  rw [wr (by omega)];rfl
 ·unfold jK
  rw [decide_eq_false (by omega)];rfl
theorem RA (h:Int):aC (jL y st h) FUEL (0,([]:List Part),0)=some (.brk (qG y (gL y st h y.jobs.length) 5,eB y (gL y st h y.jobs.length) 5)):=by
 have jl:=Y.jl
 have hl:=G.len
 have hJ:=um y st h y.jobs.length
 have s5:=LQ hJ (5 - y.jobs.length)
 rw [show y.jobs.length+(5 - y.jobs.length)=5 by omega]at s5
 rw [s5.1,s5.2]
 refine aX (body:=jL y st h) (fun n=>(qG y (gL y st h y.jobs.length) n,eB y (gL y st h y.jobs.length) n,(n:Int))) y.jobs.length _ (fuel_lt (by omega)) (fun n hn=> ?_) ?_
 ·have w:=G.wins Y hn
  obtain⟨o1,_⟩:=tQ Y hJ n
  obtain⟨m1,m2⟩:=I9 Y hJ n
  obtain⟨j1,⟨j2,j3⟩,_⟩:=Y.job n hn
  have ew:IntKind.wrap .i64 (at' st n+(at' y.jobs n).hours)=at' st n+(at' y.jobs n).hours:=wr (by omega)
  have e:(gL y st h y.jobs.length).testBit n=(bif decide (at' st n≤h)then decide (h<IntKind.wrap .i64 (at' st n+(at' y.jobs n).hours))else false):=by
   rw [yE,decide_eq_true hn,Bool.true_and,show decide (h<IntKind.wrap .i64 (at' st n+(at' y.jobs n).hours))=decide (h<at' st n+(at' y.jobs n).hours)from decide_eq_decide.2 (by omega)]
   unfold AJ;cases decide (at' st n≤h)<;>rfl
  unfold jL
  simp only [Int.toNat_natCast]
  rw [xZ (by omega),cond_true,aj ⟨by omega,fun _=>by omega,fun _=>by omega⟩,←e]
  show _=some (aT.next (qG y (gL y st h y.jobs.length) (n+1),eB y (gL y st h y.jobs.length) (n+1),((n+1:Nat):Int)))
  rw [qG,eB]
  cases hb:(gL y st h y.jobs.length).testBit n with
  |true=>rw [cond_true,aj (by omega),aj ⟨by omega,by omega,by omega⟩,if_pos rfl,if_pos rfl,wr (by omega),wr (by omega)];rfl
  |false=>rw [cond_false,if_neg (by decide),if_neg (by decide),wr (by omega)];rfl
 ·unfold jL
  simp only
  rw [decide_eq_false (by omega)];rfl
theorem K5:mV y st=some true:=by
 have jl:=Y.jl
 have hl:=G.len
 have e0:=IZ y st y.jobs.length
 have e48:=G.Me Y
 obtain⟨n,hn⟩: ∃n:Nat,kK y st y.jobs.length=(n:Int):=⟨(kK y st y.jobs.length).toNat,by omega⟩
 have ey:(⟨y.plant,y.state,y.transfers,y.jobs,y.people,y.redundant⟩:ah)=y:=rfl
 have aux: ∀(m h N:Nat) (last:List Part),h+m=n→m<N→aC (iw y st) N (y.people,last,(h:Int))=some (.brk ()):=by
  intro m
  induction m with
  |zero=>
   intro h N last hm hN
   obtain⟨N,rfl⟩: ∃M,N=M+1:=⟨N - 1,by omega⟩
   rw [aQ]
   unfold iw
   simp only
   rw [ey,Ci Y G,Option.bind_some,hn,decide_eq_false (by omega)];rfl
  |succ m ih=>
   intro h N last hm hN
   obtain⟨N,rfl⟩: ∃M,N=M+1:=⟨N - 1,by omega⟩
   have hJ:=um y st (h:Int) y.jobs.length
   have hs:=H6 Y st (h:Int) (Nat.le_refl _)
   have hB:=G.br (h:Int) (by omega) (by omega)
   obtain⟨o1,_⟩:=tQ Y hJ 5
   have hz: ∃last',iw y st (y.people,last,(h:Int))=some (.next (y.people,last',((h+1:Nat):Int))):=by
    unfold iw
    simp only
    rw [ey,Ci Y G,Option.bind_some,hn,xZ (by omega),cond_true,RA Y G,Option.bind_some]
    simp only
    by_cases h0:gL y st (h:Int) y.jobs.length=0
    ·have hp:0≤y.people:=Y.pp
     rw [h0,PV,Rx,decide_eq_false (show ¬ y.people<0 by omega),cond_false,List.length_nil,decide_eq_true (show((0:Nat):Int)=0 from rfl),show gB [(true,false)]=false from rfl,cond_false,Option.bind_some,cond_true,cond_true,wr (by omega)]
     exact⟨_,rfl⟩
    ·have hc:=Yt Y h0 hB
     obtain⟨p1,_⟩:=Lh Y hs hJ hc
     obtain⟨b,hb⟩:=U9 Y (eB y (gL y st (h:Int) y.jobs.length) 5) last (by omega)
     rw [decide_eq_false (show ¬ y.people<qG y (gL y st (h:Int) y.jobs.length) 5 by omega),cond_false,hb,wr (by omega)]
     cases hd:decide (((eB y (gL y st (h:Int) y.jobs.length) 5).length:Int)=0)with
     |true=>exact⟨_,rfl⟩
     |false=>
      rw [show gB [(false,false)]=true from rfl,cond_true,Option.bind_some,cond_false]
      cases b with
      |true=>exact⟨_,rfl⟩
      |false=>
       rw [cond_false,Ue Y hs hJ hc]
       exact⟨_,rfl⟩
   obtain⟨last',hz⟩:=hz
   rw [aQ,hz]
   exact ih (h+1) N last' (by omega) (by omega)
 unfold mV
 rw [decide_eq_true (show(st.length:Int)=(y.jobs.length:Int) by omega),Bool.not_true,cond_false,RQ Y G,Option.bind_some]
 simp only
 rw [show aC (iw y st) FUEL (y.people,([]:List Part),0)=_ from aux n 0 FUEL [] (by omega) (by unfold FUEL;omega)];rfl
end
theorem ET (y:xH) (st:List Int) (hp:Small y.plant) (h4: ∀x∈y.plant.links,x.trip.length≤8796093021952) (hs:GN y.state)
  (hj2: ∀x∈y.jobs,x.parts.length≤8796093021952∧x.after.length≤17592186043904):lu y st=some true:=by
 unfold lu
 rw [Mc]
 cases hb:(bif (bif (bif (bif (bif (decide (60<(y.plant.sources.length:Int)))then true else(decide (60<(y.plant.links.length:Int))))then true else(decide (60<(y.plant.racks.length:Int))))then true else(decide (20<(y.transfers.length:Int))))then true else(decide (8<(y.jobs.length:Int))))then true else(decide (20<(st.length:Int))))with
 |true=>rfl
 |false=>
  have bor: ∀a b:Bool,(bif a then true else b)=(a||b):=fun a b=>by cases a<;>rfl
  simp only [bor,Bool.or_eq_false_iff,decide_eq_false_iff_not]at hb
  obtain⟨⟨⟨⟨⟨b1,b2⟩,b3⟩,b4⟩,b5⟩,b6⟩:=hb
  rw [cond_false,VT y (by omega) (by omega) (by omega) h4 hs (by omega) (by omega) hj2,Option.bind_some]
  obtain⟨e,he,hY⟩:=R8 (L9 y) hp (by show y.transfers.length≤20;omega) (by show y.jobs.length≤8;omega) (fun i hi=>by
   have:=hj2 _ (at_mem (show i<y.jobs.length from hi))
   exact⟨by show(at' y.jobs i).parts.length≤_;omega,by show(at' y.jobs i).after.length≤_;omega⟩)
  rw [he,Option.bind_some]
  by_cases h0:e=0
  ·subst h0
   have Y:=hY rfl
   have jl:=Y.jl
   obtain⟨l,e,hl,hP⟩:=U4 Y he
   obtain⟨r,hr,hV⟩:=OU Y he (st:=st) (by omega)
   rw [decide_eq_true rfl,Bool.not_true,cond_false,decide_eq_false (show ¬ (5:Int)<((L9 y).jobs.length:Int) by omega),cond_false,hl,Option.bind_some]
   simp only
   rcases hP with⟨rfl,G,hmin⟩|⟨rfl,rfl,hno⟩
   ·rw [K5 Y G,hr]
    by_cases h6:r.2=0
    ·have G2:=hV h6
     have hm:=hmin st G2
     rw [Option.bind_some]
     simp only [decide_true,Bool.not_true,cond_true,cond_false]
     rw [show gB [(true,true)]=true from rfl,cond_true,Option.bind_some,Bool.not_true,cond_false,cond_false,Option.bind_some,h6]
     simp only [decide_true]
     rw [show gB [(false,false),(true,true)]=true from rfl,cond_true,K5 Y G2,Option.bind_some,Bool.not_true,show gB [(false,false),(true,true)]=true from rfl,cond_true,Ci Y G2,Option.bind_some,cond_true,Ci Y G,Option.bind_some,decide_eq_false (show ¬ kK (L9 y) st (L9 y).jobs.length<kK (L9 y) l (L9 y).jobs.length by omega)]
     rfl
    ·simp only [decide_true,Bool.not_true,cond_true,cond_false]
     rw [show gB [(true,true)]=true from rfl,cond_true,Option.bind_some,Bool.not_true,cond_false,cond_false,Option.bind_some,decide_eq_false h6]
     rfl
   ·by_cases h6:r.2=0
    ·exact absurd (hV h6) (hno st)
    ·rw [hr,decide_eq_false (show ¬ (4:Int)=0 by decide),decide_eq_true (rfl:(4:Int)=4),show gB [(false,true)]=false from rfl,cond_false,Option.bind_some]
     simp only [List.length_nil,Bool.not_false,Bool.not_true,cond_true,cond_false]
     rw [decide_eq_true (show((0:Nat):Int)=0 from rfl),Bool.not_true,cond_false,Option.bind_some,decide_eq_false h6]
     rfl
  ·rw [decide_eq_false h0];rfl
end Sg
