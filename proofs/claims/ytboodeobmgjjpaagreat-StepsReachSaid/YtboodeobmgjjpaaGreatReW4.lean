import Derived.Test.YtboodeobmgjjpaaGreatReW3
set_option linter.all false
namespace Sg
open Go Go.Proofs
set_option maxRecDepth 20000
noncomputable section
section
variable (u1:(List aI)) (u2:(List (Int × Int)))
end
section
variable (u6:(List aC))
end
section
variable (u2:(List Bool)) (u3:(List Bool)) (u4:(List Bool)) (u5:(List Bool)) (u6:(List Bool)) (u7:(List Bool)) (u8:(List Bool)) (i:Int) (l:(List af)) (p:aj) (r_:Task) (u0:(Int × State × Int)) (u9:((List Bool) × Int)) (t:Task) (u1:Int)
abbrev Z6:Ob:=(.cells 29 (IZ u2 u3 u4 u5 u6 u7 u8))
abbrev SE:=((A8 i) - i.toNat)
end
theorem yQ (p:aj) (s_:State) (l:(List af)):eP Tryz.prog 36 [(.agg (k1 p)),(.agg (Ao s_)),(sD (Nz l))] [] (fun r=>(vB r)) (fun _=>[]) (oh p s_ l):=
  fD tT mX Tryz.func36 (
  .rg {fr:=[(0,2),(1,3)],fz:=[2,3]} []<| .r<| .lp (σ:=Int) (β:=Unit) (0) [] [] ⟨[2,3,4],[],fun i=>[(7,(vI i))],fun i=>[]⟩ ⟨[],[],fun _=>[],fun _=>[]⟩
  (fun i=> .r<| .it (.cl 6 (CU p s_ (at' l i.toNat)) fun r_=> .a1 (Ue l i)<| .rg {} [0,1]<| .r<| .it (.r<| .e (.done (.ret false)))
  (.r<| .e (.next (k18 i))))
  (.e (.done (.brk ()))))
  (fun _=> .r<| .e true))
theorem Gl (x:Int) (n:Int):eP Tryz.prog 37 [(sI x),(sI n)] [] (fun r=>(vI r)) (fun _=>[]) (wY x n):=
  fD tT mX Tryz.func37 (
  .r<| .r<| .it (.r<| .e 0)
  (.a1 (n≠(0:Int))<| .r<| .r<| .it (.r<| .r<| .e (IntKind.wrap .i64 ((Int.tmod x n)+n)))
  (.r<| .e (Int.tmod x n))))
section
variable (u0:((List af) × (List State) × Int)) (i:Int)
abbrev Qr:=(ay State.cell (nR u0.2.1 0 i.toNat))
abbrev QR:=((nR u0.2.1 0 i.toNat).length+(u0.2.1.length - (A8 i)))
end
theorem xW (p:aj) (s_:State) (t:Task) (v1:(List Int)):eP Tryz.prog 7 [(.agg (k1 p)),(.agg (Ao s_)),(.agg (k2 t)),(sD (Pz v1))] [] (fun r=>(vB r)) (fun _=>[]) (jR p s_ t v1):=
  fD tT mX Tryz.func7 (
  .rg {fr:=[(0,63),(1,64),(2,65)],fz:=[63,65]} []<| .cl 1 (d9 [(0,66),(1,67),(2,68),(3,69),(4,70)] (Bt t)) fun r_=> .rg {fr:=[(2,71)],fz:=[66,67,68,69]} []<| .fz [71]<| .cl 2 (FC p t) fun v5=> .cg 6 [(v5,false)] (BN p t) fun v6=> .cg 24 [((bif (bif (bif v5 then true else(!v6))then true else(decide (8<(t.allowed.length:Int))))then true else(decide (20<(v1.length:Int)))),false)] (fQ p s_ r_) fun w1=> .r<| .it (.cl 0 mI fun v7=> .r<| .e v7)
  (.cl 3 (xH p s_ r_ 300) fun u0=> .r<| .r<| .it (.cg 8 [((!decide ((u0.1.length:Int)=0)),false)] (ou p s_ r_ u0.2.1) fun w2=> .rg {fz:=[64]} []<| .it (.r<| .e false)
  (.r<| .lp (σ:=Int) (β:=Unit) (0) [] [] ⟨[4,5,9,11],[],fun i=>[(13,(vI i))],fun i=>[]⟩ ⟨[],[],fun _=>[],fun _=>[]⟩
  (fun i=> .r<| .it (.r<| .a3 ((0:Int)≤i∧i≤(u0.2.1.length:Int)) (i.toNat*168≤140737488355328) (i.toNat≤4611686018427387904)<| .rg {an:=[(4, .arr i.toNat (ay State.cell u0.2.1))],fr:=[(4,78)]} [0,1,2, .e (i.toNat), .pf ⟨aT i.toNat 7 (ay State.cell u0.2.1) (ay State.cell u0.2.1),qa _ _ _⟩]<| .im (.uh 78 (some (.arr 29 7 i.toNat (ay State.cell u0.2.1))) (some (.arr 29 7 i.toNat (Qr u0 i))) (rP (VT _ _ _ _)))<| .im (.ln 78 i.toNat ((nR u0.2.1 0 i.toNat).length) (by simp only [List.length_set,List.length_append,List.length_cons,List.length_nil,List.length_replicate,List.length_drop,lW]))<| .a3 ((0:Int)≤(k18 i)∧(k18 i)≤(u0.2.1.length:Int)) ((QR u0 i)*168≤140737488355328) ((nR u0.2.1 0 i.toNat).length+(u0.2.1.length - (A8 i))≤4611686018427387904)<| .rg {an:=[(5, .arr (QR u0 i) (uT (Qr u0 i) (nR u0.2.1 0 i.toNat).length (fun iq jq=>ay State.cell u0.2.1 (iq+(A8 i)) jq)))],fr:=[(5,79)],fz:=[79]} [0, .e ((nR u0.2.1 0 i.toNat).length),1,2, .e ((QR u0 i)), .pf ⟨aT (QR u0 i) 7 (uT (Qr u0 i) (nR u0.2.1 0 i.toNat).length (fun iq jq=>ay State.cell u0.2.1 (iq+(A8 i)) jq)) (uT (Qr u0 i) (nR u0.2.1 0 i.toNat).length (fun iq jq=>ay State.cell u0.2.1 (iq+(A8 i)) jq)),qa _ _ _⟩]<| .im (.us 14 (vD (.sl none 7 (QR u0 i) (uT (Qr u0 i) (nR u0.2.1 0 i.toNat).length (fun iq jq=>ay State.cell u0.2.1 (iq+(A8 i)) jq)))) (vD (bB none 7 State.cell ((nR u0.2.1 0 i.toNat)++(u0.2.1.drop (A8 i))))) (zR.v (qJ.one (lK.d (jD.WI (by first|rw [List.length_append,List.length_drop]|simp only [List.length_set,List.length_drop,lW]) (.inr rfl) (XR State.cell (nR u0.2.1 0 i.toNat) (u0.2.1.drop (A8 i)) (u0.2.1.length - (A8 i)) _ (Qq _ _ _ _)))))))<| .cl 4 (ou p s_ r_ ((nR u0.2.1 0 i.toNat)++(u0.2.1.drop (A8 i)))) fun w3=> .r<| .it (.r<| .e (.done (.ret false)))
  (.r<| .e (.next (k18 i))))
  (.e (.done (.brk ()))))
  (fun _=> .cl 0 mI fun v8=> .r<| .e v8)))
  (.r<| .it (.cg 7 [((decide ((IntKind.wrap .i64 ((u0.1.length:Int)+(u0.2.1.length:Int)))=0)),true)] mI fun v9=> .r<| .e (bif (decide ((IntKind.wrap .i64 ((u0.1.length:Int)+(u0.2.1.length:Int)))=0))then v9 else false))
  (.cl 4 (d9 [(0,80),(1,81),(2,82),(3,83),(4,84),(5,85),(6,86),(7,87)] (iZ p s_ r_ u0.1)) fun v3=> .rg {fr:=[(9,88)],fz:=[80,81,82,83,84,85,86]} []<| .fz [88]<| .cg 17 [((bif (bif (!decide (u0.2.2=0))then true else(!decide (v3.2.2=0)))then true else(!decide (v3.1=(u0.1.length:Int)))),false)] (yQ p v3.2.1 t.goal) fun w4=> .r<| .it (.r<| .e false)
  (.r<| .lp (σ:=Int) (β:=Unit) (0) [] [] ⟨[3,4,5,6,9,10],[64],fun i1=>[(18,(vI i1))],fun i1=>[]⟩ ⟨[3,4,5,6,9,10],[64],fun _=>[],fun _=>[]⟩
  (fun i1=> .r<| .it (.r<| .r<| .lp (σ:=(Bool × Int)) (β:=Bool) (false,0) [] [] ⟨[3,4,5,6,9,10,18],[64],fun(v0,kz)=>[(19,(vB v0)),(20,(vI kz))],fun(v0,kz)=>[]⟩ ⟨[3,4,5,6,9,10,18],[64],fun v4=>[(19,(vB v4))],fun v4=>[]⟩
  (fun(v0,kz)=> .r<| .it (.a2 ((gB [(v0,false)]=true→(0:Int)≤kz∧kz<(t.allowed.length:Int))) ((gB [(v0,false)]=true→(0:Int)≤i1∧i1<(u0.1.length:Int)))<| .rg {} [0,1]<| .r<| .e (.next ((bif v0 then true else((decide (((I7 t kz).deed)=((at' u0.1 i1.toNat).deed))) && ((decide (((I7 t kz).index)=((at' u0.1 i1.toNat).index))) && true))),(k18 kz))))
  (.e (.done (.brk v0))))
  (fun v4=> .r<| .it (.r<| .e (.done (.ret false)))
  (.r<| .e (.next (k18 i1)))))
  (.e (.done (.brk ()))))
  (fun _=> .rg {fr:=[(1,89)]} []<| .r<| .r<| .lp (σ:=((List Bool) × (List Bool) × (List Bool) × (List Bool) × (List Bool) × (List Bool) × (List Bool) × Int × Int)) (β:=Unit) (s_.closed,s_.locked,s_.badLink,s_.on_,s_.badSource,s_.earthed,s_.badBus,0,0) [] [] ⟨[3,4,6,9,10,21],[],fun(u3,u4,u5,u6,u7,u8,u9,v2,i2)=>[(22,(vI v2)),(23,(vI i2))],fun(u3,u4,u5,u6,u7,u8,u9,v2,i2)=>[(89,some (Z6 u3 u4 u5 u6 u7 u8 u9))]⟩ ⟨[],[],fun _=>[],fun _=>[]⟩
  (fun(u3,u4,u5,u6,u7,u8,u9,v2,i2)=> .r<| .it (.cl 4 (yQ p (pJ u3 u4 u5 u6 u7 u8 u9) t.goal) fun w5=> .r<| .it (.r<| .e (.done (.ret false)))
  (.cl 7 (Gl (at' v1 i2.toNat) (t.allowed.length:Int)) fun u2=> .a1 (UA v1 i2)<| .rg {} [0,1]<| .cl 9 ⟨fun{u1} hr_14=>((Fn.TG (args:=[(.agg (k1 p)),(.agg (IZ u3 u4 u5 u6 u7 u8 u9)),(.agg (k2 r_)),(sD (bB none 2 af.cell (nR t.allowed u2.toNat (SE u2))))]) (args':=[(.agg (k1 p)),(.agg (IZ u3 u4 u5 u6 u7 u8 u9)),(.agg (k2 r_)),(sD (.sl none 2 (SE u2) (fun iq jq=>ay af.cell t.allowed (iq+u2.toNat) jq)))]) (hin:=[]) (hin':=[]) (Fn.ED [(0,117),(1,118),(2,119),(3,120),(4,121),(5,122),(6,123),(7,124)] (iZ p (pJ u3 u4 u5 u6 u7 u8 u9) r_ (nR t.allowed u2.toNat (SE u2)) hr_14) (by kernel_rfl) (by kernel_rfl) (by kernel_rfl) (by kernel_rfl)) ⟨qJ.refl _,qJ.refl _,qJ.refl _,qJ.one (lK.d (jD.WI (by first|rw [List.length_append,List.length_drop]|simp only [List.length_set,List.length_drop,lW]) (.inr rfl) (Us _ _ _ _ _))),trivial⟩ trivial):Fn Tryz.prog 28 [(.agg (k1 p)),(.agg (IZ u3 u4 u5 u6 u7 u8 u9)),(.agg (k2 r_)),(sD (.sl none 2 (SE u2) (fun iq jq=>ay af.cell t.allowed (iq+u2.toNat) jq)))] [] (.iL [(sI u1.1),(.agg [(.own 117 false u1.2.1.closed.length),(.own 118 false u1.2.1.locked.length),(.own 119 false u1.2.1.badLink.length),(.own 120 false u1.2.1.on_.length),(.own 121 false u1.2.1.badSource.length),(.own 122 false u1.2.1.earthed.length),(.own 123 false u1.2.1.badBus.length)]),(sI u1.2.2)]) [(117,some (Td u1)),(118,some (YH u1)),(119,some (WG u1)),(120,some (Wy u1)),(121,some (Xd u1)),(122,some (WV u1)),(123,some (Ww u1)),(124,none)])⟩ fun u1=> .a1 ((0:Int)≤u2∧u2≤(k18 u2)∧(k18 u2)≤(t.allowed.length:Int))<| .rg {fr:=[(14,125)]} [0,1]<| .r<| .it (.r<| .r<| .r<| .en (.next (u1.2.1.closed,u1.2.1.locked,u1.2.1.badLink,u1.2.1.on_,u1.2.1.badSource,u1.2.1.earthed,u1.2.1.badBus,(k18 v2),(k18 i2))) [117,118,119,120,121,122,123] [])
  (.r<| .e (.next (u3,u4,u5,u6,u7,u8,u9,v2,(k18 i2))))))
  (.e (.done (.brk ()))))
  (fun _=> .cl 0 mI fun w0=> .r<| .e w0)))))))
section
variable (u0:(List af))
end
section
variable (a:Link) (b:Link)
end
section
variable (u1:(List Bool)) (u2:(List Bool)) (u3:(List Bool)) (u4:(List Bool)) (u5:(List Bool)) (u6:(List Bool)) (u7:(List Bool)) (u0:(State × Int))
end
section
variable (u1:(Int × State × Int)) (u0:(Int × State × Int)) (u2:Bool) (c1:(List Bool)) (i:Int)
end
section
variable (u0:(Int × State × Int)) (u1:(List af)) (l:(List af)) (i:Int) (u2:(Int × State × Int)) (u3:(Int × State × Int)) (v4:Bool)
end
section
variable (u0:(Bool × Int)) (u1:(Bool × Int)) (u2:Int) (u3:Int) (u6:Int) (u7:Int) (u4:af) (u5:af) (u9:Bool)
end
end
end Sg
