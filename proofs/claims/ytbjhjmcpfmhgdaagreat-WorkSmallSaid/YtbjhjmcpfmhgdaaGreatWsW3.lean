import Derived.Test.YtbjhjmcpfmhgdaaGreatWsW2
set_option linter.all false
namespace Sg
open Go Go.Proofs
set_option maxRecDepth 20000
noncomputable section
section
variable (u2:(List Int)) (u1:(List (List Int))) (u0:Int)
abbrev OQ:=(ah (wF 1 (aA .i64)) [u2])
abbrev CR:=((kU u1 0 u0.toNat)++[u2])
abbrev OP:=(ah (wF 1 (aA .i64)) (CR u2 u1 u0))
abbrev Q7:=((CR u2 u1 u0).length+(u1.length - u0.toNat))
end
theorem Fa (y:bE):bN Tryz.prog 28 (Pg y) [] (fun r=>(.bZ [(sD (aH none 1 (wF 1 (aA .i64)) r.1)),(sI r.2)])) (fun _=>[]) (Dc y):=
  bO tT mX Tryz.func28 (
  .rg {fr:=[(0,15)],fz:=[15]} []<| .cl 1 (iM y) fun r_=> .r<| .r<| .it (.r<| .e (([]:List (List Int)),r_))
  (.cl 1 (kT y) fun u6=> .r<| .r<| .r<| .lp (σ:=((List (List Int)) × Int)) (β:=(List (List Int))) (([]:List (List Int)),1) [] [] ⟨[5],[],fun(u1,n)=>[(6,(vD (aH none 1 (wF 1 (aA .i64)) u1))),(7,(vI n))],fun(u1,n)=>[]⟩ ⟨[],[],fun u5=>[(6,(vD (aH none 1 (wF 1 (aA .i64)) u5)))],fun u5=>[]⟩
  (fun(u1,n)=> .r<| .it (.a1 (O5 u6 n)<| .r<| .r<| .lp (σ:=(Bool × Int)) (β:=Bool) ((!(at' u6 n.toNat)),0) [] [] ⟨[5,6,7],[],fun(u4,m)=>[(8,(vB u4)),(9,(vI m))],fun(u4,m)=>[]⟩ ⟨[5,6,7],[],fun u7=>[(8,(vB u7))],fun u7=>[]⟩
  (fun(u4,m)=> .r<| .it (.a1 (Zc m n u6)<| .r<| .it (.r<| .r<| .e (.next (false,(k18 m))))
  (.r<| .e (.next (Ma u4 m))))
  (.e (.done (.brk u4))))
  (fun u7=> .r<| .it (.r<| .e (.next (u1,(k18 n))))
  (.cl 1 (oz n) fun u2=> .r<| .r<| .lp (σ:=Int) (β:=Int) (u1.length:Int) [] [] ⟨[5,6,7,10],[],fun u3=>[(11,(vI u3))],fun u3=>[]⟩ ⟨[5,6,7,10],[],fun u0=>[(11,(vI u0))],fun u0=>[]⟩
  (fun u3=> .cg 9 [((decide (0<u3)),true)] (zZ u2 (at' u1 ((k13 u3).toNat))) fun u8=> .a1 ((gB [((decide (0<u3)),true)]=true→(0:Int)≤(k13 u3)∧(k13 u3)<(u1.length:Int)))<| .rg {} [0,1]<| .it (.r<| .e (.next (k13 u3)))
  (.e (.done (.brk u3))))
  (fun u0=> .r<| .a3 ((0:Int)≤u0∧u0≤(u1.length:Int)) (u0.toNat*24≤140737488355328) (u0.toNat≤4611686018427387904)<| .rg {an:=[(4, .arr u0.toNat (ah (wF 1 (aA .i64)) u1))],fr:=[(4,26)]} [0,1,2, .e (u0.toNat), .pf ⟨av u0.toNat 1 (ah (wF 1 (aA .i64)) u1) (ah (wF 1 (aA .i64)) u1),bI _ _ _⟩]<| .im (.uh 26 (some (.arr 39 1 u0.toNat (ah (wF 1 (aA .i64)) u1))) (some (.arr 39 1 u0.toNat (ah (wF 1 (aA .i64)) (kU u1 0 u0.toNat)))) (ic (LP _ _ _ _)))<| .im (.ln 26 u0.toNat ((kU u1 0 u0.toNat).length) (by simp only [List.length_set,List.length_append,List.length_cons,List.length_nil,List.length_replicate,List.length_drop,dH]))<| .a2 (((kU u1 0 u0.toNat).length+[u2].length)*24≤140737488355328) ((kU u1 0 u0.toNat).length+[u2].length≤4611686018427387904)<| .rg {an:=[(2, .arr [u2].length (OQ u2)),(3, .arr (CR u2 u1 u0).length (OP u2 u1 u0))],fr:=[(2,27),(3,28)]} [.pf ⟨[u2].length=1,rfl⟩, .pf ⟨av 1 1 (eO 1 [(wC u2)]) (OQ u2),(by intro i hi j hj;match i,j,hi,hj with|0,0,_,_=>rfl)⟩, .e ((kU u1 0 u0.toNat).length),0,1, .pf ⟨(CR u2 u1 u0).length=(kU u1 0 u0.toNat).length+[u2].length,List.length_append⟩, .pf ⟨av ((kU u1 0 u0.toNat).length+[u2].length) 1 (dQ (ah (wF 1 (aA .i64)) (kU u1 0 u0.toNat)) (kU u1 0 u0.toNat).length (OQ u2)) (OP u2 u1 u0),aW _ _ _ _⟩]<| .a3 ((0:Int)≤u0∧u0≤(u1.length:Int)) ((Q7 u2 u1 u0)*24≤140737488355328) ((CR u2 u1 u0).length+(u1.length - u0.toNat)≤4611686018427387904)<| .rg {an:=[(4, .arr (Q7 u2 u1 u0) (dQ (OP u2 u1 u0) (CR u2 u1 u0).length (fun iq jq=>ah (wF 1 (aA .i64)) u1 (iq+u0.toNat) jq)))],fr:=[(4,29)],fz:=[29]} [0, .e ((CR u2 u1 u0).length),1,2, .e ((Q7 u2 u1 u0)), .pf ⟨av (Q7 u2 u1 u0) 1 (dQ (OP u2 u1 u0) (CR u2 u1 u0).length (fun iq jq=>ah (wF 1 (aA .i64)) u1 (iq+u0.toNat) jq)) (dQ (OP u2 u1 u0) (CR u2 u1 u0).length (fun iq jq=>ah (wF 1 (aA .i64)) u1 (iq+u0.toNat) jq)),bI _ _ _⟩]<| .im (.us 6 (vD (.sl none 1 (Q7 u2 u1 u0) (dQ (OP u2 u1 u0) (CR u2 u1 u0).length (fun iq jq=>ah (wF 1 (aA .i64)) u1 (iq+u0.toNat) jq)))) (vD (aH none 1 (wF 1 (aA .i64)) ((CR u2 u1 u0)++(u1.drop u0.toNat)))) (Dq.v (mO.one (jG.d (dW.Wz (by first|(rw [List.length_append,List.length_drop];done)|(simp only [List.length_set,List.length_drop,dH];done)|(simp only [List.length_append,dH];done)|exact(List.length_append.trans (congrArg (_+ ·) (dH _ _ _))).symm) (.inr rfl) (Zv (wF 1 (aA .i64)) (CR u2 u1 u0) (u1.drop u0.toNat) (u1.length - u0.toNat) _ (MI _ _ _ _)))))))<| .r<| .e (.next (((CR u2 u1 u0)++(u1.drop u0.toNat)),(k18 n)))))))
  (.e (.done (.brk u1))))
  (fun u5=> .r<| .e (u5,0))))
theorem o6 (a:(List Int)) (b:(List Int)):bN Tryz.prog 11 (Qi a b) [] (fun r=>(vB r)) (fun _=>[]) (nP a b):=
  bO tT mX Tryz.func11 (
  .r<| .r<| .it (.r<| .e false)
  (.r<| .lp (σ:=Int) (β:=Unit) (0) [] [] ⟨[0,1],[],fun i=>[(5,(vI i))],fun i=>[]⟩ ⟨[],[],fun _=>[],fun _=>[]⟩
  (fun i=> .r<| .it (.a2 (nD a i) (nD b i)<| .rg {} [0,1]<| .it (.r<| .e (.done (.ret false)))
  (.r<| .e (.next (k18 i))))
  (.e (.done (.brk ()))))
  (fun _=> .r<| .e true)))
theorem zX (a:(List Int)) (b:(List Int)):bN Tryz.prog 102 (Qi a b) [] (fun r=>(vB r)) (fun _=>[]) (vo a b):=
  bO tT mX Tryz.func102 (
  .r<| .cl 2 (o6 a b) fun r_=> .r<| .e r_)
theorem jm (a:(List (List Int))) (b:(List (List Int))):bN Tryz.prog 29 [(sD (aH none 1 (wF 1 (aA .i64)) a)),(sD (aH none 1 (wF 1 (aA .i64)) b))] [] (fun r=>(vB r)) (fun _=>[]) (jd a b):=
  bO tT mX Tryz.func29 (
  .r<| .r<| .it (.r<| .e false)
  (.r<| .lp (σ:=Int) (β:=Unit) (0) [] [] ⟨[0,1],[],fun i=>[(5,(vI i))],fun i=>[]⟩ ⟨[],[],fun _=>[],fun _=>[]⟩
  (fun i=> .r<| .it (.cl 8 (zX (at' a i.toNat) (at' b i.toNat)) fun r_=> .a2 ((0:Int)≤i∧i<(a.length:Int)) ((0:Int)≤i∧i<(b.length:Int))<| .rg {} [0,1,2]<| .it (.r<| .e (.done (.ret false)))
  (.r<| .e (.next (k18 i))))
  (.e (.done (.brk ()))))
  (fun _=> .r<| .e true)))
section
variable (u0:Int)
abbrev NH:List (Nat × Option Ob):=[(0,some (.cells 3 [(cI u0)]))]
end
theorem BQ (x:aC) (u0:Int):bN Tryz.prog 103 [(.agg (Xm x)),(.one (.ptr 0 0))] (NH u0) (fun r=>(vB r)) (fun r=>(NH u0)) (yw x u0):=
  bO tT mX Tryz.func103 (
  .rg {fr:=[(0,2)],fz:=[2]} []<| .r<| .e (decide (u0≤(IntKind.wrap .i64 (x.from_+x.hours)))))
theorem qj (s_:(List aC)) (u0:Int):bN Tryz.prog 179 [(sD (aH none 6 aC.cell s_)),(.one (.fn 103 0 1 (y8 [(.ptr 0 0)])))] (NH u0) (fun r=>(vI r)) (fun r=>(NH u0)) (kI s_ u0):=
  bO tT mX Tryz.func179 (
  .r<| .r<| .lp (σ:=Int) (β:=Unit) (0) [] [] ⟨[0,1,7],[0],fun t8=>[(8,(vI t8))],fun t8=>[]⟩ ⟨[],[0],fun _=>[],fun _=>[]⟩
  (fun t8=> .r<| .it (.r<| .cr 5 (BQ (at' s_ t8.toNat) u0) fun r_=> .a1 ((0:Int)≤t8∧t8<(s_.length:Int))<| .rg {} [0,1]<| .it (.r<| .e (.done (.ret t8)))
  (.r<| .e (.next (k18 t8))))
  (.e (.done (.brk ()))))
  (fun _=> .r<| .e (-1)))
theorem mZ (s_:(List aC)) (u0:Int):bN Tryz.prog 105 [(sD (aH none 6 aC.cell s_)),(.one (.fn 103 0 1 (y8 [(.ptr 0 0)])))] (NH u0) (fun r=>(vB r)) (fun r=>(NH u0)) (ja s_ u0):=
  bO tT mX Tryz.func105 (
  .r<| .cr 2 (qj s_ u0) fun r_=> .r<| .e (decide (0≤r_)))
section
variable (y:aj) (u1:(List Int))
abbrev VS:List SV:=[(.agg (AP y)),(sD (wC u1))]
end
theorem jw (y:aj) (u1:(List Int)):bN Tryz.prog 106 (VS y u1) [] (fun r=>(vI r)) (fun _=>[]) (je y u1):=
  bO tT mX Tryz.func106 (
  .rg {fr:=[(0,1)],fz:=[1]} []<| .r<| .r<| .lp (σ:=(Int × Int)) (β:=Int) (0,0) [] [] ⟨[2,8,9],[],fun(n,u0)=>[(5,(vI n)),(10,(vI u0))],fun(n,u0)=>[]⟩ ⟨[],[],fun n1=>[(5,(vI n1))],fun n1=>[]⟩
  (fun(n,u0)=> .r<| .it (.a1 (nD u1 u0)<| .r<| .a1 (OI y u0)<| .r<| .r<| .e (.next ((if n<(IntKind.wrap .i64 ((at' u1 u0.toNat)+((at' y.jobs u0.toNat).hours)))then(IntKind.wrap .i64 ((at' u1 u0.toNat)+((at' y.jobs u0.toNat).hours)))else n),(k18 u0))))
  (.e (.done (.brk n))))
  (fun n1=> .r<| .e n1))
theorem lS (s_:(List Int)) (u0:Bool):bN Tryz.prog 107 [(sD (aH (some u0) 1 (aA .i64) s_))] [] (fun r=>(vO 0 false r.length)) (fun r=>[(0,some (bg 3 1 (aA .i64) r))]) (o7 s_ u0):=
  bO tT mX Tryz.func107 (
  .r<| .r<| .it (.r<| .im (.ad 2 2 3 1 (ah (aA .i64) ([]:List Int)))<| .en ([]:List Int) [] [(2,0)])
  (.a2 ((([]:List Int).length+s_.length)*8≤140737488355328) (([]:List Int).length+s_.length≤4611686018427387904)<| .rg {an:=[(0, .arr ([]:List Int).length (ah (aA .i64) ([]:List Int))),(2, .arr (([]:List Int)++s_).length (ah (aA .i64) (([]:List Int)++s_)))],fr:=[(0,3),(2,4)]} [.pf ⟨([]:List Int).length=0,rfl⟩, .pf ⟨av 0 1 (eO 1 []) (ah (aA .i64) ([]:List Int)),(fun i hi=>absurd hi (Nat.not_lt_zero i))⟩, .e (([]:List Int).length),0,1, .pf ⟨(([]:List Int)++s_).length=([]:List Int).length+s_.length,List.length_append⟩, .pf ⟨av (([]:List Int).length+s_.length) 1 (dQ (ah (aA .i64) ([]:List Int)) ([]:List Int).length (ah (aA .i64) s_)) (ah (aA .i64) (([]:List Int)++s_)),aW _ _ _ _⟩]<| .en (([]:List Int)++s_) [] [(4,0)]))
theorem sK (s:(List Int)) {r:(List Int)} (h:mF s=some r):Fn Tryz.prog 107 [(sD (aH none 1 (aA .i64) s))] [] (vO 0 false r.length) [(0,some (bg 3 1 (aA .i64) r))]:=by
 refine Fn.nn (lS s true h) fun hl=> ?_
 have hs:s=[]:=List.eq_nil_of_length_eq_zero hl
 subst hs
 exact lS [] false (by rw [←h];kernel_rfl)
section
variable (x2:Int) (u1:(List Source)) (u2:(List Link)) (u3:(List aO)) (u4:(List Bool)) (u5:(List Bool)) (u6:(List Bool)) (u7:(List Bool)) (u8:(List Bool)) (u9:(List Bool)) (v0:(List Bool)) (v1:(List Transfer)) (u0:(List aC)) (v2:Int) (v3:Bool)
abbrev Xg:DV:=(wT [(.int .i64 x2),(k12 u1),(aH none 6 Link.cell u2),(aH none 4 aO.cell u3),(aH none 1 af u4),(aH none 1 af u5),(aH none 1 af u6),(aH none 1 af u7),(aH none 1 af u8),(aH none 1 af u9),(aH none 1 af v0),(Wu v1),(aH none 6 aC.cell u0),(.int .i64 v2),(.bool v3)] 0)
end
theorem rM (kz:Int) (x1:(List Int)) (x2:Int) (u1:(List Source)) (u2:(List Link)) (u3:(List aO)) (u4:(List Bool)) (u5:(List Bool)) (u6:(List Bool)) (u7:(List Bool)) (u8:(List Bool)) (u9:(List Bool)) (v0:(List Bool)) (v1:(List Transfer)) (u0:(List aC)) (v2:Int) (v3:Bool) (x3:Int):bN Tryz.prog 180 [(sI kz),(sD (wT [(wC x1)] 0)),(sD (Xg x2 u1 u2 u3 u4 u5 u6 u7 u8 u9 v0 v1 u0 v2 v3)),(sD (wT [(.int .i64 x3)] 0))] [] (fun r=>(vB r)) (fun _=>[]) (lN kz x1 x2 u1 u2 u3 u4 u5 u6 u7 u8 u9 v0 v1 u0 v2 v3 x3):=
  bO tT mX Tryz.func180 (
  .r<| .a3 (nD x1 kz) ((0:Int)≤kz∧kz<(u0.length:Int)) (nD x1 x3)<| .rg {} [0,1,2]<| .e (decide ((at' x1 x3.toNat)<(IntKind.wrap .i64 ((at' x1 kz.toNat)+((at' u0 kz.toNat).hours))))))
section
variable (s_:(List Int)) (f_:(List Int)) (u0:Int) (u1:(List Source)) (u2:(List Link)) (u3:(List aO)) (u4:(List Bool)) (u5:(List Bool)) (u6:(List Bool)) (u7:(List Bool)) (u8:(List Bool)) (u9:(List Bool)) (v0:(List Bool)) (v1:(List Transfer)) (v2:(List aC)) (v3:Int) (v4:Bool) (v5:Int)
abbrev YB:List SV:=[(sD (wC s_)),(sD (.fn 180 3 (mh [(wT [(wC f_)] 0),(Xg u0 u1 u2 u3 u4 u5 u6 u7 u8 u9 v0 v1 v2 v3 v4),(wT [(.int .i64 v5)] 0)])))]
end
theorem mP (s_:(List Int)) (f_:(List Int)) (u0:Int) (u1:(List Source)) (u2:(List Link)) (u3:(List aO)) (u4:(List Bool)) (u5:(List Bool)) (u6:(List Bool)) (u7:(List Bool)) (u8:(List Bool)) (u9:(List Bool)) (v0:(List Bool)) (v1:(List Transfer)) (v2:(List aC)) (v3:Int) (v4:Bool) (v5:Int):bN Tryz.prog 205 (YB s_ f_ u0 u1 u2 u3 u4 u5 u6 u7 u8 u9 v0 v1 v2 v3 v4 v5) [] (fun r=>(vI r)) (fun _=>[]) (iZ s_ f_ u0 u1 u2 u3 u4 u5 u6 u7 u8 u9 v0 v1 v2 v3 v4 v5):=
  bO tT mX Tryz.func205 (
  .r<| .r<| .lp (σ:=Int) (β:=Unit) (0) [] [] ⟨[0,1,7],[],fun t8=>[(8,(vI t8))],fun t8=>[]⟩ ⟨[],[],fun _=>[],fun _=>[]⟩
  (fun t8=> .r<| .it (.r<| .cl 5 (rM (at' s_ t8.toNat) f_ u0 u1 u2 u3 u4 u5 u6 u7 u8 u9 v0 v1 v2 v3 v4 v5) fun r_=> .a1 (nD s_ t8)<| .rg {} [0,1]<| .it (.r<| .e (.done (.ret t8)))
  (.r<| .e (.next (k18 t8))))
  (.e (.done (.brk ()))))
  (fun _=> .r<| .e (-1)))
theorem kS (s_:(List Int)) (f_:(List Int)) (u0:Int) (u1:(List Source)) (u2:(List Link)) (u3:(List aO)) (u4:(List Bool)) (u5:(List Bool)) (u6:(List Bool)) (u7:(List Bool)) (u8:(List Bool)) (u9:(List Bool)) (v0:(List Bool)) (v1:(List Transfer)) (v2:(List aC)) (v3:Int) (v4:Bool) (v5:Int):bN Tryz.prog 129 (YB s_ f_ u0 u1 u2 u3 u4 u5 u6 u7 u8 u9 v0 v1 v2 v3 v4 v5) [] (fun r=>(vB r)) (fun _=>[]) (gY s_ f_ u0 u1 u2 u3 u4 u5 u6 u7 u8 u9 v0 v1 v2 v3 v4 v5):=
  bO tT mX Tryz.func129 (
  .r<| .cl 2 (mP s_ f_ u0 u1 u2 u3 u4 u5 u6 u7 u8 u9 v0 v1 v2 v3 v4 v5) fun r_=> .r<| .e (decide (0≤r_)))
section
variable (y:aj) (u0:(List Int)) (i:Int)
abbrev Yi:List SV:=[(.agg (AP y)),(sD (wC u0)),(sI i)]
abbrev Xh:=(bif (decide (((at' y.jobs i.toNat).from_)≤(at' u0 i.toNat)))then(decide ((at' u0 i.toNat)≤(IntKind.wrap .i64 (((at' y.jobs i.toNat).to_) - ((at' y.jobs i.toNat).hours)))))else false)
end
theorem kK (y:aj) (u0:(List Int)) (i:Int):bN Tryz.prog 108 (Yi y u0 i) [] (fun r=>(vB r)) (fun _=>[]) (jk y u0 i):=
  bO tT mX Tryz.func108 (
  .rg {fr:=[(0,4),(1,5),(2,6)],fz:=[5]} []<| .a1 (OI y i)<| .rg {fr:=[(5,7)],fz:=[4,6,7]} []<| .cg 23 [((Xh y u0 i),true)] (kS ((at' y.jobs i.toNat).after) u0 y.plant.buses y.plant.sources y.plant.links y.plant.racks y.state.closed y.state.locked y.state.badLink y.state.on_ y.state.badSource y.state.earthed y.state.badBus y.transfers y.jobs y.people y.redundant i) fun r_=> .a2 (nD u0 i) ((gB [((decide (((at' y.jobs i.toNat).from_)≤(at' u0 i.toNat))),true)]=true→(0:Int)≤i∧i<(u0.length:Int)))<| .rg {} [0,1,2]<| .e (bif (Xh y u0 i)then(!r_)else false))
section
variable (o_:(List Int)) (u0:aj) (v2:Int) (v4:(List Int)) (l:(List Int)) (v5:(List (Int × Bool))) (u1:jh) (v1:(List Int)) (h_:Int) (v0:(List (Int × Bool))) (u5:(List Int)) (u6:Int) (u2:jh) (u7:(List Int)) (u9:Int) (u3:jh)
abbrev Vj:List SV:=[(.one (.ptr 0 0)),(.one (.ptr 1 0)),(.one (.ptr 2 0)),(.one (.ptr 3 0)),(.one (.ptr 4 0)),(.one (.ptr 5 0)),(.one (.opt 6 1 0 0)),(.one (.ptr 7 0))]
abbrev TM:Nat × Option Ob:=(2,some (.cells 210 [(.fn 103 0 1 (y8 [(.ptr 3 0)]))]))
abbrev R9:Nat × Option Ob:=(7,some (.cells 1 [(.fn 104 0 8 (y8 [(.ptr 0 0),(.ptr 1 0),(.ptr 2 0),(.ptr 3 0),(.ptr 4 0),(.ptr 5 0),(.opt 6 1 0 0),(.ptr 7 0)]))]))
abbrev V3:List (Nat × Option Ob):=[(0,some (.cells 39 [(.own 8 false o_.length)])),(GJ u0),TM,(3,some (.cells 3 [(cI v2)])),(4,some (.cells 39 [(.own 9 false v4.length)])),(5,some (.cells 196 [(.mp 10)])),(6,some (bg 209 1 (aA .u8) l)),R9,(8,some (rC o_)),(9,some (rC v4)),(10,some (JI v5))]
abbrev oZ:=((o_.length:Int).toNat)
abbrev VW:=((0:Int)≤(o_.length:Int)∧(o_.length:Int)<((5:Nat):Int))
abbrev VL:=(at' [u1.e0,u1.e1,u1.e2,u1.e3,u1.e4] (oZ o_))
abbrev Ns:List DV:=[(.int .u8 (VL o_ u1))]
abbrev TY:=(IntKind.wrap .u8 (((BitVec.ofInt (IntKind.bits .u8) (at' v1 h_.toNat)|||BitVec.ofInt (IntKind.bits .u8) (VL o_ u1)).toNat:Int)))
abbrev Vp:=(bU dP (TY o_ u1 v1 h_) v0)
abbrev Xj:=((Vp o_ u1 v1 h_ v0).getD false)
abbrev Y1:List CV:=[(cB (Xj o_ u1 v1 h_ v0))]
abbrev Xf:List DV:=[(.int .u8 (TY o_ u1 v1 h_))]
abbrev UO:=(u5.set u6.toNat (TY o_ u2 u5 u6))
abbrev Zk:=(ah (aA .u8) (UO o_ u5 u6 u2))
abbrev Ye:=(IntKind.wrap .u8 (((BitVec.ofInt (IntKind.bits .u8) (at' u7 u9.toNat) &&& ~~~ BitVec.ofInt (IntKind.bits .u8) (VL o_ u3)).toNat:Int)))
abbrev Wd:=(u7.set u9.toNat (Ye o_ u7 u9 u3))
abbrev WY:=(ah (aA .u8) (Wd o_ u7 u9 u3))
end
theorem uw (w6:(List Int)→aj→Int→(List Int)→(List (Int × Bool))→(List Int)→Option ((List Int) × Int × (List Int) × (List (Int × Bool)) × (List Int))) (rec_ok: ∀(o_:(List Int)) (u0:aj) (v2:Int) (v4:(List Int)) (v5:(List (Int × Bool))) (l:(List Int)) (r:((List Int) × Int × (List Int) × (List (Int × Bool)) × (List Int))),w6 o_ u0 v2 v4 v5 l=some r→Fn Tryz.prog 104 Vj (V3 o_ u0 v2 v4 l v5) ((fun r=>(.bZ [])) r) ((fun r=>[(0,some (.cells 39 [(.own 11 false r.1.length)])),(GJ u0),TM,(3,some (.cells 3 [(cI r.2.1)])),(4,some (.cells 39 [(.own 12 false r.2.2.1.length)])),(5,some (.cells 196 [(.mp 10)])),(6,some (bg 209 1 (aA .u8) r.2.2.2.2)),R9,(8,none),(9,none),(10,some (Ld 198 4 false false 1 1 (aA .u8) af r.2.2.2.1)),(11,some (bg 3 1 (aA .i64) r.1)),(12,some (bg 3 1 (aA .i64) r.2.2.1))]) r)) (o_:(List Int)) (u0:aj) (v2:Int) (v4:(List Int)) (v5:(List (Int × Bool))) (l:(List Int)):bN Tryz.prog 104 Vj (V3 o_ u0 v2 v4 l v5) (fun r=>(.bZ [])) (fun r=>[(0,some (.cells 39 [(.own 11 false r.1.length)])),(GJ u0),TM,(3,some (.cells 3 [(cI r.2.1)])),(4,some (.cells 39 [(.own 12 false r.2.2.1.length)])),(5,some (.cells 196 [(.mp 10)])),(6,some (bg 209 1 (aA .u8) r.2.2.2.2)),R9,(8,none),(9,none),(10,some (Ld 198 4 false false 1 1 (aA .u8) af r.2.2.2.1)),(11,some (bg 3 1 (aA .i64) r.1)),(12,some (bg 3 1 (aA .i64) r.2.2.1))]) (nZ w6 o_ u0 v2 v4 v5 l):=
  bO tT mX Tryz.func104 (
  .r<| .cr 5 ⟨fun{r_} hr_=>((Fn.Uu (args:=[(sD (aH none 6 aC.cell (u0.jobs.drop (oZ o_)))),(.one (.fn 103 0 1 (y8 [(.ptr 3 0)])))]) (args':=[(sD (.sl none 6 (u0.jobs.length - (oZ o_)) (fun iq jq=>ah aC.cell u0.jobs (iq+(oZ o_)) jq))),(.one (.fn 103 0 1 (y8 [(.ptr 3 0)])))]) (hin:=[(3,some (.cells 3 [(cI v2)]))]) (hin':=[(3,some (.cells 3 [(cI v2)]))]) (rK [(0,3)] (mZ (u0.jobs.drop (oZ o_)) v2 hr_)) ⟨mO.one (jG.d (dW.Wz (by first|rw [List.length_append,List.length_drop]|simp only [List.length_set,List.length_drop,dH]|exact List.length_replicate) (.inr rfl) (MI _ _ _ _))),mO.refl _,trivial⟩ (.refl _)):Fn Tryz.prog 105 [(sD (.sl none 6 (u0.jobs.length - (oZ o_)) (fun iq jq=>ah aC.cell u0.jobs (iq+(oZ o_)) jq))),(.one (.fn 103 0 1 (y8 [(.ptr 3 0)])))] [(3,some (.cells 3 [(cI v2)]))] (vB r_) [(3,some (.cells 3 [(cI v2)]))])⟩ fun r_=> .a1 ((0:Int)≤(o_.length:Int)∧(o_.length:Int)≤(u0.jobs.length:Int))<| .rg {} [0,1]<| .it (.im (.re 0 0 8 31)<| .im (.re 4 0 9 32)<| .en (o_,v2,v4,v5,l) [] [(31,11),(32,12)])
  (.r<| .it (.cr 2 ⟨fun{w3} hr_1=>((Fn.vE (frz:=[8]) (p:=[o_.length=o_.length]) (jw u0 o_ hr_1) (by kernel_rfl) ⟨rfl,trivial⟩ rfl):Fn Tryz.prog 106 [(.agg (AP u0)),(.one (.own 8 false o_.length))] [(8,some (rC o_))] (vI w3) [(8,some (rC o_))])⟩ fun w3=> .r<| .r<| .it (.cl 2 ⟨fun{v8} hr_2=>((Fn.AQ (args:=[(sD (wC o_))]) (frz:=[8]) (p:=[o_.length=o_.length]) (Fn.uO [(0,33)] (sK o_ hr_2) (by kernel_rfl) (by kernel_rfl) (by kernel_rfl) (by kernel_rfl)) (by kernel_rfl) ⟨rfl,trivial⟩ (by kernel_rfl) ⟨(fun _ _=>rfl),trivial⟩ (by kernel_rfl)):Fn Tryz.prog 107 [(.one (.own 8 false o_.length))] [(8,some (rC o_))] (vO 33 false v8.length) [(8,some (rC o_)),(33,some (rC v8))])⟩ fun v8=> .r<| .im (.re 0 0 8 34)<| .en (o_,w3,v8,v5,l) [] [(34,11),(33,12)])
  (.im (.re 0 0 8 35)<| .im (.re 4 0 9 36)<| .en (o_,v2,v4,v5,l) [] [(35,11),(36,12)]))
  (.a1 ((0:Int)≤(o_.length:Int)∧(o_.length:Int)<(u0.jobs.length:Int))<| .rg {fr:=[(5,37)]} []<| .rg {fz:=[37]} []<| .im (.re 0 0 8 66)<| .im (.re 4 0 9 67)<| .lp (σ:=((List Int) × Int × (List Int) × (List (Int × Bool)) × (List Int) × Int)) (β:=((List Int) × Int × (List Int) × (List (Int × Bool)) × (List Int))) (o_,v2,v4,v5,l,(at' u0.jobs (oZ o_)).from_) [] [(66,52),(67,53)] ⟨[0,1,3,5,6,7,8,10],[1,2,5,7],fun(o0,v7,v6,v0,v1,u4)=>[(11,(vI u4))],fun(o0,v7,v6,v0,v1,u4)=>[(0,some (.cells 39 [(.own 52 false o0.length)])),(3,some (.cells 3 [(cI v7)])),(4,some (.cells 39 [(.own 53 false v6.length)])),(6,some (bg 209 1 (aA .u8) v1)),(8,none),(9,none),(10,some (JI v0)),(52,some (rC o0)),(53,some (rC v6))]⟩ ⟨[],[1,2,5,7],fun(o03,o0001,o04,o05,v9)=>[],fun(o03,o0001,o04,o05,v9)=>[(0,some (.cells 39 [(.own 52 false o03.length)])),(3,some (.cells 3 [(cI o0001)])),(4,some (.cells 39 [(.own 53 false o04.length)])),(6,some (bg 209 1 (aA .u8) v9)),(8,none),(9,none),(10,some (Ld 198 4 false false 1 1 (aA .u8) af o05)),(52,some (bg 3 1 (aA .i64) o03)),(53,some (bg 3 1 (aA .i64) o04))]⟩
  (fun(o0,v7,v6,v0,v1,u4)=> .r<| .it (.a2 (Ps o0 u4) (QW o0 u4)<| .rg {an:=[(2, .arr [u4].length (ah (aA .i64) [u4])),(3, .arr (o0++[u4]).length (Gb o0 u4))],fr:=[(2,60),(3,61)]} [.pf ⟨[u4].length=1,rfl⟩, .pf ⟨av 1 1 (Tj u4) (ah (aA .i64) [u4]),(by intro i hi j hj;match i,j,hi,hj with|0,0,_,_=>rfl)⟩, .e (o0.length),0,1, .pf ⟨(o0++[u4]).length=o0.length+[u4].length,List.length_append⟩, .pf ⟨av (o0.length+[u4].length) 1 (Qy o0 u4) (Gb o0 u4),aW _ _ _ _⟩]<| .cr 3 ⟨fun{w4} hr_3=>((Fn.vE (frz:=[61]) (p:=[(o0++[u4]).length=(o0++[u4]).length]) (kK u0 (o0++[u4]) (o_.length:Int) hr_3) (by kernel_rfl) ⟨rfl,trivial⟩ rfl):Fn Tryz.prog 108 [(.agg (AP u0)),(.one (.own 61 false ((o0++[u4]).length))),(sI (o_.length:Int))] [(61,some (bg 3 1 (aA .i64) (o0++[u4])))] (vB w4) [(61,some (bg 3 1 (aA .i64) (o0++[u4])))])⟩ fun w4=> .r<| .r<| .lp (σ:=(Bool × Int)) (β:=Bool) (w4,u4) [] [] ⟨[0,1,3,5,6,7,8,10,11],[0,1,2,3,4,5,6,7,8,9,10,53,61],fun(w0,h_)=>[(12,(vB w0)),(13,(vI h_))],fun(w0,h_)=>[]⟩ ⟨[0,1,3,5,6,7,8,10,11],[0,1,2,3,4,5,6,7,8,9,10,53,61],fun w5=>[(12,(vB w5))],fun w5=>[]⟩
  (fun(w0,h_)=> .r<| .it (.cl 4 bT fun u1=> .a3 ((0:Int)≤h_∧h_<(48:Nat)) (h_.toNat<v1.length) (VW o_)<| .rg {an:=[(6, .vals (Ns o_ u1)),(8, .look (Vp o_ u1 v1 h_ v0).isSome (Y1 o_ u1 v1 h_ v0))]} [0,1,3,2, .dv 2 ⟨(0:Int)≤(o_.length:Int)∧(o_.length:Int)<((5:Nat):Int),(o_.length:Int).toNat*1+1≤(tV u1).length,fun ax=>IG (n:=5) (sz:=1) (Nat.le_refl _) ax⟩, .dv 2 ⟨(0:Int)≤(o_.length:Int)∧(o_.length:Int)<((5:Nat):Int),((tV u1).drop ((o_.length:Int).toNat*1)).take 1=(Ns o_ u1).map .d,fun ax=>Iu (n:=5) (sz:=1) (g:=fun q=>[(.d (.int .u8 (at' [u1.e0,u1.e1,u1.e2,u1.e3,u1.e4] q)))]) (by intro q hq;match q,hq with|0,_=>rfl|1,_=>rfl|2,_=>rfl|3,_=>rfl|4,_=>rfl) ax⟩, .pf ⟨gF [some .u8] 1 1 v0.length (pK (aA .u8) v0) (qF af v0) (Xf o_ u1 v1 h_) [(.d (.bool false))] (Vp o_ u1 v1 h_ v0).isSome (Y1 o_ u1 v1 h_ v0),fB (fun _=>rfl) (fun _ _=>rfl) v0 (TY o_ u1 v1 h_) false rfl rfl rfl⟩]<| .r<| .e (.next ((Xj o_ u1 v1 h_ v0),(k18 h_))))
  (.e (.done (.brk w0))))
  (fun w5=> .r<| .it (.r<| .lp (σ:=((List Int) × Int)) (β:=(List Int)) (v1,u4) [] [] ⟨[0,1,3,5,6,7,8,10,11],[0,1,2,3,4,5,7,8,9,10,53,61],fun(u5,u6)=>[(14,(vI u6))],fun(u5,u6)=>[(6,some (bg 209 1 (aA .u8) u5))]⟩ ⟨[0,1,3,5,6,7,8,10,11],[0,1,2,3,4,5,7,8,9,10,53,61],fun w1=>[],fun w1=>[(6,some (bg 209 1 (aA .u8) w1))]⟩
  (fun(u5,u6)=> .r<| .it (.cl 3 bT fun u2=> .a3 ((0:Int)≤u6∧u6<(48:Nat)) (u6.toNat<u5.length) (VW o_)<| .rg {an:=[(5, .vals (Ns o_ u2)),(8, .arr 0 (Zk o_ u5 u6 u2))]} [0,1,3,2, .dv 2 ⟨(0:Int)≤(o_.length:Int)∧(o_.length:Int)<((5:Nat):Int),(o_.length:Int).toNat*1+1≤(tV u2).length,fun ax=>IG (n:=5) (sz:=1) (Nat.le_refl _) ax⟩, .dv 2 ⟨(0:Int)≤(o_.length:Int)∧(o_.length:Int)<((5:Nat):Int),((tV u2).drop ((o_.length:Int).toNat*1)).take 1=(Ns o_ u2).map .d,fun ax=>Iu (n:=5) (sz:=1) (g:=fun q=>[(.d (.int .u8 (at' [u2.e0,u2.e1,u2.e2,u2.e3,u2.e4] q)))]) (by intro q hq;match q,hq with|0,_=>rfl|1,_=>rfl|2,_=>rfl|3,_=>rfl|4,_=>rfl) ax⟩,0,1, .pf ⟨av u5.length 1 (bW (ah (aA .u8) u5) u6.toNat 0 (Xf o_ u2 u5 u6)) (Zk o_ u5 u6 u2),aR _ _ _ _ _ _ _ _ rfl (fun j hj=>(match j,hj with|0,_=>rfl))⟩]<| .im (.ll 6 u5 (UO o_ u5 u6 u2))<| .r<| .e (.next ((UO o_ u5 u6 u2),(k18 u6))))
  (.e (.done (.brk u5))))
  (fun w1=> .cl 1 (fw [(8,61),(9,53),(11,62),(12,63)] ⟨fun h=>rec_ok (o0++[u4]) u0 v7 v6 v0 w1 _ h⟩) fun v3=> .r<| .r<| .lp (σ:=((List Int) × Int)) (β:=(List Int)) (v3.2.2.2.2,u4) [] [] ⟨[0,1,3,5,6,7,8,10,11],[0,1,2,3,4,5,7,8,9,10,62,63],fun(u7,u9)=>[(15,(vI u9))],fun(u7,u9)=>[(6,some (bg 209 1 (aA .u8) u7))]⟩ ⟨[0,1,3,5,6,7,8,10,11],[0,1,2,3,4,5,7,8,9,10,62,63],fun w2=>[],fun w2=>[(6,some (bg 209 1 (aA .u8) w2))]⟩
  (fun(u7,u9)=> .r<| .it (.cl 3 bT fun u3=> .a3 ((0:Int)≤u9∧u9<(48:Nat)) (u9.toNat<u7.length) (VW o_)<| .rg {an:=[(5, .vals (Ns o_ u3)),(8, .arr 0 (WY o_ u7 u9 u3))]} [0,1,3,2, .dv 2 ⟨(0:Int)≤(o_.length:Int)∧(o_.length:Int)<((5:Nat):Int),(o_.length:Int).toNat*1+1≤(tV u3).length,fun ax=>IG (n:=5) (sz:=1) (Nat.le_refl _) ax⟩, .dv 2 ⟨(0:Int)≤(o_.length:Int)∧(o_.length:Int)<((5:Nat):Int),((tV u3).drop ((o_.length:Int).toNat*1)).take 1=(Ns o_ u3).map .d,fun ax=>Iu (n:=5) (sz:=1) (g:=fun q=>[(.d (.int .u8 (at' [u3.e0,u3.e1,u3.e2,u3.e3,u3.e4] q)))]) (by intro q hq;match q,hq with|0,_=>rfl|1,_=>rfl|2,_=>rfl|3,_=>rfl|4,_=>rfl) ax⟩,0,1, .pf ⟨av u7.length 1 (bW (ah (aA .u8) u7) u9.toNat 0 [(.int .u8 (Ye o_ u7 u9 u3))]) (WY o_ u7 u9 u3),aR _ _ _ _ _ _ _ _ rfl (fun j hj=>(match j,hj with|0,_=>rfl))⟩]<| .im (.ll 6 u7 (Wd o_ u7 u9 u3))<| .r<| .e (.next ((Wd o_ u7 u9 u3),(k18 u9))))
  (.e (.done (.brk u7))))
  (fun w2=> .a1 ((0:Int)≤(o_.length:Int)∧(o_.length:Int)≤(v3.1.length:Int))<| .rg {an:=[(2, .arr (v3.1.take (oZ o_)).length (ah (aA .i64) (v3.1.take (oZ o_))))],fr:=[(2,64)]} [.e (v3.1.length),0, .dv 0 ⟨(0:Int)≤(o_.length:Int)∧(o_.length:Int)≤(v3.1.length:Int),(v3.1.take (oZ o_)).length=(oZ o_),fun ax=>take_len ax⟩, .pf ⟨av (oZ o_) 1 (ah (aA .i64) v3.1) (ah (aA .i64) (v3.1.take (oZ o_))),Em _ _ _ _⟩]<| .r<| .en (.next ((v3.1.take (oZ o_)),v3.2.1,v3.2.2.1,v3.2.2.2.1,w2,(k18 u4))) [] [(64,52),(63,53)])))
  (.a1 ((0:Int)≤(o_.length:Int)∧(o_.length:Int)≤((o0++[u4]).length:Int))<| .rg {an:=[(2, .arr ((o0++[u4]).take (oZ o_)).length (ah (aA .i64) ((o0++[u4]).take (oZ o_))))],fr:=[(2,65)]} [.e ((o0++[u4]).length),0, .dv 0 ⟨(0:Int)≤(o_.length:Int)∧(o_.length:Int)≤((o0++[u4]).length:Int),((o0++[u4]).take (oZ o_)).length=(oZ o_),fun ax=>take_len ax⟩, .pf ⟨av (oZ o_) 1 (Gb o0 u4) (ah (aA .i64) ((o0++[u4]).take (oZ o_))),Em _ _ _ _⟩]<| .r<| .en (.next (((o0++[u4]).take (oZ o_)),v7,v6,v0,v1,(k18 u4))) [] [(65,52)])))
  (.e (.done (.brk (o0,v7,v6,v0,v1)))))
  (fun(o03,o0001,o04,o05,v9)=> .en (o03,o0001,o04,o05,v9) [] [(52,11),(53,12)]))))
theorem rG: ∀(n:Nat) (o_:(List Int)) (u0:aj) (u2:Int) (u1:(List Int)) (u3:(List (Int × Bool))) (l:(List Int)),bN Tryz.prog 104 Vj (V3 o_ u0 u2 u1 l u3) (fun r=>(.bZ [])) (fun r=>[(0,some (.cells 39 [(.own 11 false r.1.length)])),(GJ u0),TM,(3,some (.cells 3 [(cI r.2.1)])),(4,some (.cells 39 [(.own 12 false r.2.2.1.length)])),(5,some (.cells 196 [(.mp 10)])),(6,some (bg 209 1 (aA .u8) r.2.2.2.2)),R9,(8,none),(9,none),(10,some (Ld 198 4 false false 1 1 (aA .u8) af r.2.2.2.1)),(11,some (bg 3 1 (aA .i64) r.1)),(12,some (bg 3 1 (aA .i64) r.2.2.1))]) (lm n o_ u0 u2 u1 u3 l)
 |0,_,_,_,_,_,_=> ⟨fun h=>by cases h⟩
 |n+1,o_,u0,u2,u1,u3,l=>uw (lm n) (fun o_ u0 u2 u1 u3 l _ h=>rG n o_ u0 u2 u1 u3 l h) o_ u0 u2 u1 u3 l
section
variable (y:bE) (u0:(List Int)) (i:Int) (kz:Int)
abbrev WI:List SV:=[(.agg (Pt y)),(sD (wC u0)),(sI i)]
abbrev Uh:=(at' ((at' y.jobs i.toNat).after) kz.toNat)
end
theorem BM (y:bE) (u0:(List Int)) (i:Int):bN Tryz.prog 181 (WI y u0 i) [] (fun r=>(vB r)) (fun _=>[]) (xY y u0 i):=
  bO tT mX Tryz.func181 (
  .rg {fr:=[(0,2)]} []<| .a1 (Mk y i)<| .rg {fr:=[(5,3)],fz:=[2,3]} []<| .a3 (nD u0 i) ((gB [((decide ((at' u0 i.toNat)<((at' y.jobs i.toNat).from_))),false)]=true→(0:Int)≤i∧i<(u0.length:Int))) ((gB [((bif (decide ((at' u0 i.toNat)<((at' y.jobs i.toNat).from_)))then true else(decide (((at' y.jobs i.toNat).to_)<(at' u0 i.toNat)))),false)]=true→(0:Int)≤i∧i<(u0.length:Int)))<| .rg {} [0,1,2]<| .it (.r<| .e true)
  (.r<| .lp (σ:=Int) (β:=Unit) (0) [] [] ⟨[1,2,3,7],[],fun kz=>[(8,(vI kz))],fun kz=>[]⟩ ⟨[],[],fun _=>[],fun _=>[]⟩
  (fun kz=> .r<| .it (.a4 ((0:Int)≤kz∧kz<(((at' y.jobs i.toNat).after).length:Int)) ((0:Int)≤(Uh y i kz)∧(Uh y i kz)<(u0.length:Int)) ((0:Int)≤(Uh y i kz)∧(Uh y i kz)<(y.jobs.length:Int)) (nD u0 i)<| .rg {} [0,1,0,2,3]<| .it (.r<| .e (.done (.ret true)))
  (.r<| .e (.next (k18 kz))))
  (.e (.done (.brk ()))))
  (fun _=> .r<| .e false)))
theorem FC (y:bE) (u0:(List Int)):bN Tryz.prog 182 (Qx y u0) [] (fun r=>(vI r)) (fun _=>[]) (Dp y u0):=
  bO tT mX Tryz.func182 (
  .rg {fr:=[(0,1)],fz:=[1]} []<| .r<| .r<| .lp (σ:=(Int × Int)) (β:=Int) (0,0) [] [] ⟨[1,2],[],fun(n,i)=>[(5,(vI n)),(6,(vI i))],fun(n,i)=>[]⟩ ⟨[],[],fun n1=>[(5,(vI n1))],fun n1=>[]⟩
  (fun(n,i)=> .r<| .it (.a2 (nD u0 i) (Mk y i)<| .rg {} [0,1]<| .r<| .e (.next ((if n<(IntKind.wrap .i64 ((at' u0 i.toNat)+((at' y.jobs i.toNat).hours)))then(IntKind.wrap .i64 ((at' u0 i.toNat)+((at' y.jobs i.toNat).hours)))else n),(k18 i))))
  (.e (.done (.brk n))))
  (fun n1=> .r<| .e n1))
theorem D6 (y:bE) (u0:(List Int)) (h_:Int):bN Tryz.prog 183 (WI y u0 h_) [] (fun r=>(vI r)) (fun _=>[]) (Al y u0 h_):=
  bO tT mX Tryz.func183 (
  .rg {fr:=[(0,1)],fz:=[1]} []<| .r<| .r<| .lp (σ:=(Int × Int)) (β:=Int) (0,0) [] [] ⟨[1,2,3],[],fun(n,i)=>[(7,(vI n)),(8,(vI i))],fun(n,i)=>[]⟩ ⟨[],[],fun n1=>[(7,(vI n1))],fun n1=>[]⟩
  (fun(n,i)=> .r<| .it (.a3 (nD u0 i) ((gB [((decide ((at' u0 i.toNat)≤h_)),true)]=true→(0:Int)≤i∧i<(u0.length:Int))) ((gB [((decide ((at' u0 i.toNat)≤h_)),true)]=true→(0:Int)≤i∧i<(y.jobs.length:Int)))<| .rg {} [0,1,2]<| .it (.a1 ((0:Int)≤i)<| .r<| .r<| .e (.next ((IntKind.wrap .i64 (n+(IntKind.wrap .i64 ((1:Int)*2 ^ min i.toNat (IntKind.bits .i64))))),(k18 i))))
  (.r<| .e (.next (n,(k18 i)))))
  (.e (.done (.brk n))))
  (fun n1=> .r<| .e n1))
theorem Am (y:bE) (u1:(List Bool)) (u0:(List Int)):bN Tryz.prog 109 [(.agg (Pt y)),(sD (aH none 1 af u1)),(sD (wC u0))] [] (fun r=>(.bZ [(sI r.1),(sI r.2)])) (fun _=>[]) (uM y u1 u0):=
  bO tT mX Tryz.func109 (
  .rg {fr:=[(0,1)],fz:=[1]} []<| .r<| .lp (σ:=Int) (β:=Unit) (0) [] [] ⟨[1,2,3],[],fun i=>[(8,(vI i))],fun i=>[]⟩ ⟨[1,2,3],[],fun _=>[],fun _=>[]⟩
  (fun i=> .r<| .it (.cl 3 (BM y u0 i) fun r_=> .r<| .it (.r<| .e (.done (.ret (0,60))))
  (.r<| .e (.next (k18 i))))
  (.e (.done (.brk ()))))
  (fun _=> .cl 2 (FC y u0) fun u3=> .r<| .r<| .lp (σ:=Int) (β:=Unit) (0) [] [] ⟨[1,2,3,9],[],fun h_=>[(10,(vI h_))],fun h_=>[]⟩ ⟨[9],[],fun _=>[],fun _=>[]⟩
  (fun h_=> .r<| .it (.cl 4 (D6 y u0 h_) fun u2=> .a1 (O5 u1 u2)<| .r<| .it (.r<| .e (.done (.ret (h_,120))))
  (.r<| .e (.next (k18 h_))))
  (.e (.done (.brk ()))))
  (fun _=> .r<| .e (u3,0))))
theorem Aw (y:bE) (u0:(List Int)):bN Tryz.prog 31 (Qx y u0) [] (fun r=>(.bZ [(sI r.1),(sI r.2)])) (fun _=>[]) (vz y u0):=
  bO tT mX Tryz.func31 (
  .rg {fr:=[(0,1)],fz:=[1]} []<| .cl 1 (iM y) fun r_=> .r<| .r<| .it (.r<| .e (0,r_))
  (.r<| .it (.r<| .e (0,1))
  (.cl 2 (kT y) fun u2=> .cl 4 (Am y u2 u0) fun u1=> .r<| .e (u1.1,u1.2))))
section
variable (u0:(List Int)) (i:Int) (y:bE)
abbrev V7:=((bif (decide ((at' u0 i.toNat)<0))then true else(decide ((y.jobs.length:Int)≤(at' u0 i.toNat)))),false)
end
theorem mD (y:bE) (u0:(List Int)):bN Tryz.prog 32 (Qx y u0) [] (fun r=>(.bZ [(sB r.1),(sI r.2)])) (fun _=>[]) (kR y u0):=
  bO tT mX Tryz.func32 (
  .rg {fr:=[(0,1)],fz:=[1]} []<| .cl 1 (iM y) fun r_=> .r<| .r<| .it (.r<| .e (false,r_))
  (.r<| .r<| .lp (σ:=(Int × Int)) (β:=Int) (0,0) [] [] ⟨[1,2],[],fun(n,i)=>[(7,(vI n)),(8,(vI i))],fun(n,i)=>[]⟩ ⟨[2],[],fun n1=>[(7,(vI n1))],fun n1=>[]⟩
  (fun(n,i)=> .r<| .it (.a5 (nD u0 i) ((gB [((decide ((at' u0 i.toNat)<0)),false)]=true→(0:Int)≤i∧i<(u0.length:Int))) ((gB [(V7 u0 i y)]=true→(0:Int)≤i∧i<(u0.length:Int))) ((gB [(V7 u0 i y)]=true→(0:Int)≤(at' u0 i.toNat))) ((gB [(V7 u0 i y)]=true→2≠(0:Int)))<| .rg {} [0,1,2,3,4]<| .it (.r<| .e (.done (.ret (false,1))))
  (.a2 (nD u0 i) ((0:Int)≤(at' u0 i.toNat))<| .rg {} [0,1]<| .r<| .e (.next ((IntKind.wrap .i64 (n+(IntKind.wrap .i64 ((1:Int)*2 ^ min (at' u0 i.toNat).toNat (IntKind.bits .i64))))),(k18 i)))))
  (.e (.done (.brk n))))
  (fun n1=> .cl 1 (kT y) fun u1=> .a1 (O5 u1 n1)<| .r<| .e ((at' u1 n1.toNat),0))))
theorem sJ (y:aj) (u1:(List Int)) (h_:Int):bN Tryz.prog 112 (Yi y u1 h_) [] (fun r=>(vD (.int .u8 r))) (fun _=>[]) (mG y u1 h_):=
  bO tT mX Tryz.func112 (
  .rg {fr:=[(0,1)],fz:=[1]} []<| .r<| .r<| .lp (σ:=(Int × Int)) (β:=Int) (0,0) [] [] ⟨[2,3,10,11],[],fun(s_,u0)=>[(7,(vD (.int .u8 s_))),(12,(vI u0))],fun(s_,u0)=>[]⟩ ⟨[],[],fun u2=>[(7,(vD (.int .u8 u2)))],fun u2=>[]⟩
  (fun(s_,u0)=> .r<| .it (.a1 (nD u1 u0)<| .r<| .a1 ((gB [((decide ((at' u1 u0.toNat)≤h_)),true)]=true→(0:Int)≤u0∧u0<(y.jobs.length:Int)))<| .r<| .it (.cl 1 bT fun r_=> .a1 ((0:Int)≤u0∧u0<((5:Nat):Int))<| .rg {an:=[(3, .vals (EY r_ u0))]} [1,0, .dv 0 ⟨(0:Int)≤u0∧u0<((5:Nat):Int),u0.toNat*1+1≤(tV r_).length,fun ax=>IG (n:=5) (sz:=1) (Nat.le_refl _) ax⟩, .dv 0 ⟨(0:Int)≤u0∧u0<((5:Nat):Int),((tV r_).drop (u0.toNat*1)).take 1=(EY r_ u0).map .d,fun ax=>Iu (n:=5) (sz:=1) (g:=fun q=>[(.d (.int .u8 (at' [r_.e0,r_.e1,r_.e2,r_.e3,r_.e4] q)))]) (by intro q hq;match q,hq with|0,_=>rfl|1,_=>rfl|2,_=>rfl|3,_=>rfl|4,_=>rfl) ax⟩]<| .r<| .e (.next ((IntKind.wrap .u8 (((BitVec.ofInt (IntKind.bits .u8) s_|||BitVec.ofInt (IntKind.bits .u8) (NM r_ u0)).toNat:Int))),(k18 u0))))
  (.r<| .e (.next (s_,(k18 u0)))))
  (.e (.done (.brk s_))))
  (fun u2=> .r<| .e u2))
section
variable (u3:Int) (u0:(List (Int × Bool)))
abbrev Ou:List CV:=[(cB ((bU dP u3 u0).getD false))]
end
theorem CS (y:aj) (u1:(List Int)):bN Tryz.prog 35 (VS y u1) [] (fun r=>(.bZ [(sI r.1),(sI r.2)])) (fun _=>[]) (qB y u1):=
  bO tT mX Tryz.func35 (
  .rg {fr:=[(0,2)],fz:=[2]} []<| .cl 1 (gJ y) fun r_=> .r<| .r<| .it (.r<| .e (0,r_))
  (.r<| .it (.r<| .e (0,1))
  (.r<| .lp (σ:=Int) (β:=Unit) (0) [] [] ⟨[1,2,22],[],fun u4=>[(23,(vI u4))],fun u4=>[]⟩ ⟨[1,2],[],fun _=>[],fun _=>[]⟩
  (fun u4=> .r<| .it (.r<| .cl 3 (kK y u1 u4) fun u6=> .r<| .it (.r<| .e (.done (.ret (0,60))))
  (.r<| .e (.next (k18 u4))))
  (.e (.done (.brk ()))))
  (fun _=> .cl 1 (fw [(0,3)] (mH y)) fun u0=> .r<| .cl 2 (jw y u1) fun u7=> .r<| .lp (σ:=Int) (β:=Unit) (0) [] [] ⟨[1,2,8,36],[3],fun u2=>[(37,(vI u2))],fun u2=>[]⟩ ⟨[1,2],[],fun _=>[],fun _=>[]⟩
  (fun u2=> .r<| .it (.r<| .cl 4 (sJ y u1 u2) fun u3=> .rg {an:=[(5, .look (bU dP u3 u0).isSome (Ou u3 u0))]} [0, .pf ⟨gF [some .u8] 1 1 u0.length (pK (aA .u8) u0) (qF af u0) [(.int .u8 u3)] [(.d (.bool false))] (bU dP u3 u0).isSome (Ou u3 u0),fB (fun _=>rfl) (fun _ _=>rfl) u0 u3 false rfl rfl rfl⟩]<| .it (.r<| .e (.done (.ret (u2,120))))
  (.r<| .e (.next (k18 u2))))
  (.e (.done (.brk ()))))
  (fun _=> .cl 2 (jw y u1) fun u5=> .r<| .e (u5,0))))))
theorem yN (y:aj) (u2:(List Int)):bN Tryz.prog 37 (VS y u2) [] (fun r=>(.bZ [(sB r.1),(sI r.2)])) (fun _=>[]) (l8 y u2):=
  bO tT mX Tryz.func37 (
  .rg {fr:=[(0,2)],fz:=[2]} []<| .cl 1 (gJ y) fun r_=> .r<| .r<| .it (.r<| .e (false,r_))
  (.r<| .r<| .lp (σ:=(Int × Int)) (β:=Int) (0,0) [] [] ⟨[2,15,16],[],fun(s_,u1)=>[(7,(vD (.int .u8 s_))),(17,(vI u1))],fun(s_,u1)=>[]⟩ ⟨[2],[],fun u3=>[(7,(vD (.int .u8 u3)))],fun u3=>[]⟩
  (fun(s_,u1)=> .r<| .it (.a1 (nD u2 u1)<| .r<| .cg 12 [((bif (decide ((at' u2 u1.toNat)<0))then true else(decide ((y.jobs.length:Int)≤(at' u2 u1.toNat)))),false)] (dR s_ (at' u2 u1.toNat)) fun u5=> .r<| .it (.r<| .e (.done (.ret (false,1))))
  (.cl 1 bT fun u0=> .a1 ((0:Int)≤(at' u2 u1.toNat)∧(at' u2 u1.toNat)<((5:Nat):Int))<| .rg {an:=[(3, .vals [(.int .u8 (at' [u0.e0,u0.e1,u0.e2,u0.e3,u0.e4] ((at' u2 u1.toNat).toNat)))])]} [1,0, .dv 0 ⟨(0:Int)≤(at' u2 u1.toNat)∧(at' u2 u1.toNat)<((5:Nat):Int),(at' u2 u1.toNat).toNat*1+1≤(tV u0).length,fun ax=>IG (n:=5) (sz:=1) (Nat.le_refl _) ax⟩, .dv 0 ⟨(0:Int)≤(at' u2 u1.toNat)∧(at' u2 u1.toNat)<((5:Nat):Int),((tV u0).drop ((at' u2 u1.toNat).toNat*1)).take 1=[(.int .u8 (at' [u0.e0,u0.e1,u0.e2,u0.e3,u0.e4] ((at' u2 u1.toNat).toNat)))].map .d,fun ax=>Iu (n:=5) (sz:=1) (g:=fun q=>[(.d (.int .u8 (at' [u0.e0,u0.e1,u0.e2,u0.e3,u0.e4] q)))]) (by intro q hq;match q,hq with|0,_=>rfl|1,_=>rfl|2,_=>rfl|3,_=>rfl|4,_=>rfl) ax⟩]<| .r<| .e (.next ((IntKind.wrap .u8 (((BitVec.ofInt (IntKind.bits .u8) s_|||BitVec.ofInt (IntKind.bits .u8) (at' [u0.e0,u0.e1,u0.e2,u0.e3,u0.e4] ((at' u2 u1.toNat).toNat))).toNat:Int))),(k18 u1)))))
  (.e (.done (.brk s_))))
  (fun u3=> .cl 1 (fw [(0,3)] (mH y)) fun u4=> .rg {an:=[(3, .look (bU dP u3 u4).isSome (Ou u3 u4))]} [0, .pf ⟨gF [some .u8] 1 1 u4.length (pK (aA .u8) u4) (qF af u4) [(.int .u8 u3)] [(.d (.bool false))] (bU dP u3 u4).isSome (Ou u3 u4),fB (fun _=>rfl) (fun _ _=>rfl) u4 u3 false rfl rfl rfl⟩]<| .e (((bU dP u3 u4).getD false),0))))
theorem jR (y:bE):bN Tryz.prog 25 (Pg y) [] (fun r=>(.v (.agg [(cI r.plant.buses),(.own 0 false r.plant.sources.length),(.own 1 false r.plant.links.length),(.own 2 false r.plant.racks.length),(.own 3 false r.state.closed.length),(.own 4 false r.state.locked.length),(.own 5 false r.state.badLink.length),(.own 6 false r.state.on_.length),(.own 7 false r.state.badSource.length),(.own 8 false r.state.earthed.length),(.own 9 false r.state.badBus.length),(.own 10 false r.transfers.length),(.own 11 false r.jobs.length),(cI r.people),(cB r.redundant)]))) (fun r=>[(0,some (bg 38 5 Source.cell r.plant.sources)),(1,some (bg 35 6 Link.cell r.plant.links)),(2,some (bg 147 4 aO.cell r.plant.racks)),(3,some (bg 4 1 af r.state.closed)),(4,some (bg 4 1 af r.state.locked)),(5,some (bg 4 1 af r.state.badLink)),(6,some (bg 4 1 af r.state.on_)),(7,some (bg 4 1 af r.state.badSource)),(8,some (bg 4 1 af r.state.earthed)),(9,some (bg 4 1 af r.state.badBus)),(10,some (bg 190 3 Transfer.cell r.transfers)),(11,some (bg 185 6 aC.cell r.jobs)),(12,none)]) (eD y):=
  bO tT mX Tryz.func25 (
  .rg {fr:=[(0,39),(1,40)]} []<| .cl 2 (fw [(0,41),(1,42),(2,43),(3,44)] (kF y.plant)) fun r_=> .cl 5 (WR y) fun u0=> .rg {fr:=[(11,53)]} []<| .r<| .im (.xS 53 11 62 190 3 (ah Transfer.cell ([]:List Transfer)))<| .lp (σ:=((List Transfer) × Int)) (β:=(List Transfer)) (([]:List Transfer),0) [] [(62,55)] ⟨[1,2,3],[39,40,41,42,43,45,46,47,48,49,50,51],fun(u1,i)=>[(4,(vI i))],fun(u1,i)=>(SF y r_ u0 u1)⟩ ⟨[1,2,3],[39,40,41,42,43,45,46,47,48,49,50,51],fun u5=>[],fun u5=>(SF y r_ u0 u5)⟩
  (fun(u1,i)=> .r<| .it (.r<| .a3 ((0:Int)≤i∧i<(y.transfers.length:Int)) ((u1.length+[(uH y i)].length)*24≤140737488355328) (u1.length+[(uH y i)].length≤4611686018427387904)<| .rg {an:=[(6, .arr [(uH y i)].length (NN y i)),(7, .arr (LD y u1 i).length (R4 y u1 i))],fr:=[(6,60),(7,61)]} [0, .pf ⟨[(uH y i)].length=1,rfl⟩, .pf ⟨av 1 3 (YW y i) (NN y i),(by intro i hi j hj;match i,j,hi,hj with|0,0,_,_=>rfl|0,1,_,_=>rfl|0,2,_,_=>rfl)⟩, .e (u1.length),1,2, .pf ⟨(LD y u1 i).length=u1.length+[(uH y i)].length,List.length_append⟩, .pf ⟨av (u1.length+[(uH y i)].length) 3 (dQ (ah Transfer.cell u1) u1.length (NN y i)) (R4 y u1 i),aW _ _ _ _⟩]<| .r<| .en (.next ((LD y u1 i),(k18 i))) [] [(61,55)])
  (.e (.done (.brk u1))))
  (fun u5=> .r<| .im (.xS 53 12 79 185 6 (ah aC.cell ([]:List aC)))<| .lp (σ:=((List aC) × Int)) (β:=(List aC)) (([]:List aC),0) [] [(79,66)] ⟨[1,2,3],[39,40,41,42,43,45,46,47,48,49,50,51,55],fun(u2,i1)=>[(6,(vI i1))],fun(u2,i1)=>(TP y r_ u0 u5 u2)⟩ ⟨[2,3],[40,41,42,43,45,46,47,48,49,50,51,55],fun u6=>[],fun u6=>(TP y r_ u0 u5 u6)⟩
  (fun(u2,i1)=> .r<| .it (.a1 (Mk y i1)<| .rg {fr:=[(5,75)]} []<| .cl 2 (fw [(0,76)] (gU ((at' y.jobs i1.toNat).parts))) fun u3=> .r<| .cl 2 (pz ((at' y.jobs i1.toNat).after)) fun u4=> .rg {fz:=[76]} []<| .fz [75]<| .r<| .a2 (XQ y u2 i1 u3 u4) (Xq y u2 i1 u3 u4)<| .rg {an:=[(2, .arr [(GA y i1 u3 u4)].length (PO y i1 u3 u4)),(3, .arr (NJ y u2 i1 u3 u4).length (RL y u2 i1 u3 u4))],fr:=[(2,77),(3,78)]} [.pf ⟨[(GA y i1 u3 u4)].length=1,rfl⟩, .pf ⟨av 1 6 (WZ y i1 u3 u4) (PO y i1 u3 u4),(by intro i hi j hj;match i,j,hi,hj with|0,0,_,_=>rfl|0,1,_,_=>rfl|0,2,_,_=>rfl|0,3,_,_=>rfl|0,4,_,_=>rfl|0,5,_,_=>rfl)⟩, .e (u2.length),0,1, .pf ⟨(NJ y u2 i1 u3 u4).length=u2.length+[(GA y i1 u3 u4)].length,List.length_append⟩, .pf ⟨av (Wm y u2 i1 u3 u4) 6 (Yu y u2 i1 u3 u4) (RL y u2 i1 u3 u4),aW _ _ _ _⟩]<| .r<| .en (.next (XC y u2 i1 u3 u4)) [] [(78,66)])
  (.e (.done (.brk u2))))
  (fun u6=> .r<| .en (⟨r_,u0,u5,u6,y.people,y.redundant⟩:aj) [] [(41,0),(42,1),(43,2),(45,3),(46,4),(47,5),(48,6),(49,7),(50,8),(51,9),(55,10),(66,11),(40,12)])))
section
variable (u0:jh) (u1:Int) (u2:(List (Int × Bool))) (y:aj)
abbrev Si:=(bU dP (NM u0 u1) u2)
abbrev Vx:List SV:=[(.one (.ptr 19 0)),(.one (.ptr 13 0)),(.one (.ptr 22 0)),(.one (.ptr 21 0)),(.one (.ptr 20 0)),(.one (.ptr 16 0)),(.one (.opt 18 1 0 0)),(.one (.ptr 23 0))]
abbrev VO:Nat × Option Ob:=(13,some (Wh y))
abbrev Vn:Nat × Option Ob:=(22,some (.cells 210 [(.fn 103 0 1 (y8 [(.ptr 21 0)]))]))
abbrev V6:Nat × Option Ob:=(23,some (.cells 1 [(.fn 104 0 8 (y8 [(.ptr 19 0),(.ptr 13 0),(.ptr 22 0),(.ptr 21 0),(.ptr 20 0),(.ptr 16 0),(.opt 18 1 0 0),(.ptr 23 0)]))]))
abbrev Yc:List (Nat × Option Ob):=[(19,some (.cells 39 [(.own 24 false 0)])),(VO y),Vn,(21,some (.cells 3 [(cI 49)])),(20,some (.cells 39 [(.own 25 false 0)])),(16,some (.cells 196 [(.mp 15)])),(18,some (bg 209 1 (aA .u8) (List.replicate 48 (0:Int)))),V6,(24,some (.arr 3 1 0 (ah (aA .i64) ([]:List Int)))),(25,some (.arr 3 1 0 (ah (aA .i64) ([]:List Int)))),(15,some (JI u2))]
end
theorem ig (y:aj):bN Tryz.prog 30 (QG y) [] (fun r=>(.bZ [(.one (.own 0 false r.1.length)),(sI r.2)])) (fun r=>[(0,some (bg 3 1 (aA .i64) r.1))]) (jF y):=
  bO tT mX Tryz.func30 (
  .rg {fr:=[(0,13)]} []<| .cl 1 (gJ y) fun r_=> .r<| .r<| .it (.r<| .im (.ad 2 14 3 1 (ah (aA .i64) ([]:List Int)))<| .en (([]:List Int),r_) [] [(14,0)])
  (.cl 1 (fw [(0,15)] (jP y)) fun u2=> .rg {fr:=[(2,16)]} []<| .r<| .lp (σ:=Int) (β:=Unit) (0) [] [] ⟨[1,5,22],[13,15,16],fun u1=>[(23,(vI u1))],fun u1=>[]⟩ ⟨[1,5],[13,15,16],fun _=>[],fun _=>[]⟩
  (fun u1=> .r<| .it (.r<| .cl 1 bT fun u0=> .a1 ((0:Int)≤u1∧u1<((5:Nat):Int))<| .rg {an:=[(3, .vals (EY u0 u1)),(4, .look (Si u0 u1 u2).isSome [(cB ((Si u0 u1 u2).getD false))])]} [1,0, .dv 0 ⟨(0:Int)≤u1∧u1<((5:Nat):Int),u1.toNat*1+1≤(tV u0).length,fun ax=>IG (n:=5) (sz:=1) (Nat.le_refl _) ax⟩, .dv 0 ⟨(0:Int)≤u1∧u1<((5:Nat):Int),((tV u0).drop (u1.toNat*1)).take 1=(EY u0 u1).map .d,fun ax=>Iu (n:=5) (sz:=1) (g:=fun q=>[(.d (.int .u8 (at' [u0.e0,u0.e1,u0.e2,u0.e3,u0.e4] q)))]) (by intro q hq;match q,hq with|0,_=>rfl|1,_=>rfl|2,_=>rfl|3,_=>rfl|4,_=>rfl) ax⟩, .pf ⟨gF [some .u8] 1 1 u2.length (pK (aA .u8) u2) (qF af u2) (EY u0 u1) [(.d (.bool false))] (Si u0 u1 u2).isSome [(cB ((Si u0 u1 u2).getD false))],fB (fun _=>rfl) (fun _ _=>rfl) u2 (NM u0 u1) false rfl rfl rfl⟩]<| .it (.r<| .im (.ad 2 17 3 1 (ah (aA .i64) ([]:List Int)))<| .en (.done (.ret (([]:List Int),4))) [] [(17,0)])
  (.r<| .e (.next (k18 u1))))
  (.e (.done (.brk ()))))
  (fun _=> .rg {an:=[(0, .arr (List.replicate 48 (0:Int)).length (ah (aA .u8) (List.replicate 48 (0:Int))))],fr:=[(0,18)]} [.pf ⟨(List.replicate 48 (0:Int)).length=48,List.length_replicate⟩, .pf ⟨av 48 1 (fun i _=>(List.replicate 48 (DV.int .u8 0)).getD i .nilp) (ah (aA .u8) (List.replicate 48 (0:Int))),Ta .u8 48⟩]<| .rg {fr:=[(0,19),(1,20)]} []<| .rg {fr:=[(0,21)]} []<| .rg {fr:=[(1,22)]} []<| .rg {fr:=[(0,23)]} []<| .r<| .im (.xS 19 0 24 3 1 (ah (aA .i64) ([]:List Int)))<| .im (.xS 20 0 25 3 1 (ah (aA .i64) ([]:List Int)))<| .cl 1 ⟨fun{u3} hr_3=>((Fn.Uu (args:=Vx) (args':=Vx) (hin:=[(19,some (.cells 39 [(.own 24 false (([]:List Int).length))])),(VO y),Vn,(21,some (.cells 3 [(cI 49)])),(20,some (.cells 39 [(.own 25 false (([]:List Int).length))])),(16,some (.cells 196 [(.mp 15)])),(18,some (bg 209 1 (aA .u8) (List.replicate 48 (0:Int)))),V6,(24,some (bg 3 1 (aA .i64) ([]:List Int))),(25,some (bg 3 1 (aA .i64) ([]:List Int))),(15,some (JI u2))]) (hin':=(Yc u2 y)) (Fn.uO [(0,19),(1,13),(2,22),(3,21),(4,20),(5,16),(6,18),(7,23),(8,24),(9,25),(10,15),(11,26),(12,27)] (rG FUEL ([]:List Int) y 49 ([]:List Int) u2 (List.replicate 48 (0:Int)) hr_3) (by kernel_rfl) (by kernel_rfl) (by kernel_rfl) (by kernel_rfl)) ⟨mO.refl _,mO.refl _,mO.refl _,mO.refl _,mO.refl _,mO.refl _,mO.refl _,mO.refl _,trivial⟩ ⟨rfl,jL ⟨jG.of (congrArg (CV.own _ _) (by simp only [List.length_set,List.length_append,List.length_cons,List.length_nil,List.length_replicate,List.length_drop,dH])),trivial⟩,⟨rfl, .refl _,⟨rfl, .refl _,⟨rfl, .refl _,⟨rfl,jL ⟨jG.of (congrArg (CV.own _ _) (by simp only [List.length_set,List.length_append,List.length_cons,List.length_nil,List.length_replicate,List.length_drop,dH])),trivial⟩,⟨rfl, .refl _,⟨rfl, .refl _,⟨rfl, .refl _,⟨rfl,Ak (by simp only [List.length_set,List.length_append,List.length_cons,List.length_nil,List.length_replicate,List.length_drop,dH]),⟨rfl,Ak (by simp only [List.length_set,List.length_append,List.length_cons,List.length_nil,List.length_replicate,List.length_drop,dH]),⟨rfl, .refl _,trivial⟩⟩⟩⟩⟩⟩⟩⟩⟩⟩⟩):Fn Tryz.prog 104 Vx (Yc u2 y) (.bZ []) [(19,some (.cells 39 [(.own 26 false u3.1.length)])),(VO y),Vn,(21,some (.cells 3 [(cI u3.2.1)])),(20,some (.cells 39 [(.own 27 false u3.2.2.1.length)])),(16,some (.cells 196 [(.mp 15)])),(18,some (bg 209 1 (aA .u8) u3.2.2.2.2)),V6,(24,none),(25,none),(15,some (Ld 198 4 false false 1 1 (aA .u8) af u3.2.2.2.1)),(26,some (bg 3 1 (aA .i64) u3.1)),(27,some (bg 3 1 (aA .i64) u3.2.2.1))])⟩ fun u3=> .rg {fz:=[21]} []<| .r<| .it (.r<| .im (.ad 2 28 3 1 (ah (aA .i64) ([]:List Int)))<| .en (([]:List Int),4) [] [(28,0)])
  (.r<| .en (u3.2.2.1,0) [] [(27,0)]))))
theorem kV (y:aj):bN Tryz.prog 27 (QG y) [] (fun r=>(.bZ [(.one (.own 0 false r.1.length)),(sI r.2)])) (fun r=>[(0,some (bg 39 1 (wF 1 (aA .i64)) r.1))]) (fV y):=
  bO tT mX Tryz.func27 (
  .rg {fr:=[(0,28)],fz:=[28]} []<| .cl 1 (gJ y) fun r_=> .r<| .r<| .it (.r<| .im (.ad 2 29 39 1 (ah (wF 1 (aA .i64)) ([]:List (List Int))))<| .en (([]:List (List Int)),r_) [] [(29,0)])
  (.cl 1 (fw [(0,30)] (jP y)) fun u2=> .rg {fr:=[(2,31)]} []<| .r<| .rg {fr:=[(0,32)]} []<| .im (.ad 6 57 39 1 (ah (wF 1 (aA .i64)) ([]:List (List Int))))<| .lp (σ:=((List (List Int)) × Int)) (β:=(List (List Int))) (([]:List (List Int)),1) [] [(57,36)] ⟨[1,5,7],[30,31],fun(u0,s0)=>[(6,(vO 36 false u0.length))],fun(u0,s0)=>[(32,some (Q8 s0)),(36,some (bg 39 1 (wF 1 (aA .i64)) u0))]⟩ ⟨[],[],fun u3=>[(6,(vO 36 false u3.length))],fun u3=>[(36,some (bg 39 1 (wF 1 (aA .i64)) u3))]⟩
  (fun(u0,s0)=> .a1 ((0:Int)≤(y.jobs.length:Int))<| .r<| .it (.rg {an:=[(2, .look (bU dP s0 u2).isSome (Ou s0 u2))],fr:=[(4,51)]} [.pf ⟨gF [some .u8] 1 1 u2.length (pK (aA .u8) u2) (qF af u2) [(.int .u8 s0)] [(.d (.bool false))] (bU dP s0 u2).isSome (Ou s0 u2),fB (fun _=>rfl) (fun _ _=>rfl) u2 s0 false rfl rfl rfl⟩]<| .cl 1 (dm s0) fun u5=> .r<| .cl 0 (fw [(0,52),(1,31),(2,32),(3,51),(4,30)] (qI u5 u2 s0 (!((bU dP s0 u2).getD false)))) fun u7=> .rf 52 [5,7,8] [] none 0 []<| .r<| .it (.cl 2 (dm s0) fun u6=> .cl 3 (xg u6) fun u1=> .a2 ((u0.length+[u1].length)*24≤140737488355328) (u0.length+[u1].length≤4611686018427387904)<| .rg {an:=[(4, .arr [u1].length (OQ u1)),(5, .arr (u0++[u1]).length (ah (wF 1 (aA .i64)) (u0++[u1])))],fr:=[(4,53),(5,54)]} [3,2, .pf ⟨[u1].length=1,rfl⟩, .pf ⟨av 1 1 (eO 1 [(wC u1)]) (OQ u1),(by intro i hi j hj;match i,j,hi,hj with|0,0,_,_=>rfl)⟩, .e (u0.length),0,1, .pf ⟨(u0++[u1]).length=u0.length+[u1].length,List.length_append⟩, .pf ⟨av (u0.length+[u1].length) 1 (dQ (ah (wF 1 (aA .i64)) u0) u0.length (OQ u1)) (ah (wF 1 (aA .i64)) (u0++[u1])),aW _ _ _ _⟩]<| .r<| .rg {fr:=[(0,55)]} []<| .r<| .en (.next ((u0++[u1]),(IntKind.wrap .u8 (s0+1)))) [] [(55,32),(54,36)])
  (.r<| .rg {fr:=[(0,56)]} []<| .r<| .en (.next (u0,(IntKind.wrap .u8 (s0+1)))) [] [(56,32)]))
  (.e (.done (.brk u0))))
  (fun u3=> .cl 1 (fw [(0,36)] ⟨fun h=>sF u3 h⟩) fun u4=> .r<| .a1 (u3.length=u4.length)<| .so 6 36 false u3.length u4.length 0<| .so 50 36 false u3.length u4.length 0<| .r<| .en (u4,0) [] [(36,0)])))
section
variable (u0:aj)
abbrev P8:List DV:=[(aH (some true) 1 (aA .i64) [0,1])]
abbrev X7:List (Nat × Option Ob):=[(61,some (.arr 39 1 [[0,1]].length (eO 1 P8)))]
abbrev P9:List DV:=[(aH (some true) 1 (aA .i64) [0]),(aH (some true) 1 (aA .i64) [1])]
abbrev WM:List (Nat × Option Ob):=[(66,some (.arr 39 1 [[0],[1]].length (eO 1 P9)))]
abbrev Vw:=(u0.jobs.set 0 (⟨(at' u0.jobs 0).parts,(at' u0.jobs 0).hours,(at' u0.jobs 0).from_,4,(at' u0.jobs 0).people,(at' u0.jobs 0).after⟩:aC))
abbrev UY:=(ah aC.cell (Vw u0))
abbrev Pn:=(at' (Vw u0) 1)
abbrev Uk:=((Vw u0).set 1 (⟨(Pn u0).parts,(Pn u0).hours,(Pn u0).from_,4,(Pn u0).people,(Pn u0).after⟩:aC))
abbrev UZ:=(ah aC.cell (Uk u0))
abbrev SE:=(bW (UZ u0) 1 5 [(aH (some true) 1 (aA .i64) [0])])
abbrev Px:=(at' (Uk u0) 1)
abbrev Xc:=(⟨(Px u0).parts,(Px u0).hours,(Px u0).from_,(Px u0).to_,(Px u0).people,[0]⟩:aC)
abbrev Zo:=((Uk u0).set 1 (Xc u0))
end
theorem Cf:bN Tryz.prog 33 [] [] (fun r=>(vB r)) (fun _=>[]) (kX):=
  bO tT mX Tryz.func33 (
  .r<| .cl 0 jr fun r_=> .cl 1 (fw [(0,41),(1,42),(2,43),(3,44),(4,45),(5,46),(6,47),(7,48),(8,49),(9,50),(10,51),(11,52),(12,53)] (jR r_)) fun u1=> .rg {fr:=[(2,54)]} []<| .fz [41,42,43,44,45,46,47,48,49,50,51,52]<| .cr 2 ⟨fun{u2} hr_2=>((Fn.vE (frz:=[55]) (p:=[[0,1].length=[0,1].length]) (Fn.le (args':=[(.agg (AP u1)),(sD (aH (some true) 1 (aA .i64) [0,1]))]) (yN u1 [0,1] hr_2) (by exact⟨mO.refl _,mO.one (jG.d dW.jZ),trivial⟩)) (by kernel_rfl) ⟨rfl,trivial⟩ rfl):Fn Tryz.prog 37 [(.agg (AP u1)),(.one (.own 55 true ([0,1].length)))] [(55,some (bg 3 1 (aA .i64) [0,1]))] (.bZ [(sB u2.1),(sI u2.2)]) [(55,some (bg 3 1 (aA .i64) [0,1]))])⟩ fun u2=> .rg {an:=[(1, .arr [0,1].length (ah (aA .i64) [0,1]))],fr:=[(1,55)]} [.pf ⟨[0,1].length=2,rfl⟩, .pf ⟨av 2 1 (eO 1 [(.int .i64 0),(.int .i64 1)]) (ah (aA .i64) [0,1]),(by intro i hi j hj;match i,j,hi,hj with|0,0,_,_=>rfl|1,0,_,_=>rfl)⟩,0]<| .cl 1 (fw [(0,56)] (ig u1)) fun u4=> .rg {fz:=[56]} []<| .cl 1 (fw [(0,57)] (kV u1)) fun u5=> .rg {fz:=[57]} []<| .cr 2 ⟨fun{u3} hr_5=>((Fn.vE (frz:=[58]) (p:=[[0,2].length=[0,2].length]) (Fn.le (args':=[(.agg (AP u1)),(sD (aH (some true) 1 (aA .i64) [0,2]))]) (CS u1 [0,2] hr_5) (by exact⟨mO.refl _,mO.one (jG.d dW.jZ),trivial⟩)) (by kernel_rfl) ⟨rfl,trivial⟩ rfl):Fn Tryz.prog 35 [(.agg (AP u1)),(.one (.own 58 true ([0,2].length)))] [(58,some (bg 3 1 (aA .i64) [0,2]))] (.bZ [(sI u3.1),(sI u3.2)]) [(58,some (bg 3 1 (aA .i64) [0,2]))])⟩ fun u3=> .rg {an:=[(1, .arr [0,2].length (ah (aA .i64) [0,2]))],fr:=[(1,58)]} [.pf ⟨[0,2].length=2,rfl⟩, .pf ⟨av 2 1 (eO 1 [(.int .i64 0),(.int .i64 2)]) (ah (aA .i64) [0,2]),(by intro i hi j hj;match i,j,hi,hj with|0,0,_,_=>rfl|1,0,_,_=>rfl)⟩,0]<| .fk (bif (bif (bif (bif (bif u2.1 then true else(!decide (u2.2=0)))then true else(!decide (u4.2=0)))then true else(!decide (u5.2=0)))then true else(!decide (u3.2=0)))then true else(!decide (u3.1=5))) (.rg {ov:=[(21,true,0)],sk:=[22,23,24,25,28,29,30,31,32]} []<| .t<| .r<| .e false)
  (.cr 24 ⟨fun{u7} hr_6=>((Fn.vE (frz:=[59]) (p:=[[0,2].length=[0,2].length]) (Fn.le (args':=[(sD (aH none 1 (aA .i64) u4.1)),(sD (aH (some true) 1 (aA .i64) [0,2]))]) (o6 u4.1 [0,2] hr_6) (by exact⟨mO.refl _,mO.one (jG.d dW.jZ),trivial⟩)) (by kernel_rfl) ⟨rfl,trivial⟩ rfl):Fn Tryz.prog 11 [(sD (aH none 1 (aA .i64) u4.1)),(.one (.own 59 true ([0,2].length)))] [(59,some (bg 3 1 (aA .i64) [0,2]))] (vB u7) [(59,some (bg 3 1 (aA .i64) [0,2]))])⟩ fun u7=> .fk (!u7) (.rg {an:=[(23, .arr [0,2].length (ah (aA .i64) [0,2]))],fr:=[(23,59)],ov:=[(21,false,2),(27,true,0)],sk:=[28,29,30,31,32]} [.pf ⟨[0,2].length=2,rfl⟩, .pf ⟨av 2 1 (eO 1 [(.int .i64 0),(.int .i64 2)]) (ah (aA .i64) [0,2]),(by intro i hi j hj;match i,j,hi,hj with|0,0,_,_=>rfl|1,0,_,_=>rfl)⟩, .k 1]<| .t<| .r<| .e false)
  (.cr 31 ⟨fun{u8} hr_7=>((Fn.vE (frz:=[61]) (p:=[[[0,1]].length=[[0,1]].length]) (Fn.le (args':=[(sD (aH none 1 (wF 1 (aA .i64)) u5.1)),(sD (.sl (some true) 1 [[0,1]].length (eO 1 P8)))]) (jm u5.1 [[0,1]] hr_7) (by exact⟨mO.refl _,mO.one (jG.d (dW.sl (.inl rfl) (by intro i hi j hj;match i,j,hi,hj with|0,0,_,_=>exact dW.jZ))),trivial⟩)) (by kernel_rfl) ⟨rfl,trivial⟩ rfl):Fn Tryz.prog 29 [(sD (aH none 1 (wF 1 (aA .i64)) u5.1)),(.one (.own 61 true ([[0,1]].length)))] X7 (vB u8) X7)⟩ fun u8=> .rg {an:=[(23, .arr [0,2].length (ah (aA .i64) [0,2])),(29, .frz [0,1].length (ah (aA .i64) [0,1])),(30, .arr [[0,1]].length (eO 1 P8))],fr:=[(23,59),(30,61)],ov:=[(21,false,3),(27,false,1)]} [.pf ⟨[0,2].length=2,rfl⟩, .pf ⟨av 2 1 (eO 1 [(.int .i64 0),(.int .i64 2)]) (ah (aA .i64) [0,2]),(by intro i hi j hj;match i,j,hi,hj with|0,0,_,_=>rfl|1,0,_,_=>rfl)⟩, .k 2, .pf ⟨[0,1].length=2,rfl⟩, .pf ⟨av 2 1 (eO 1 [(.int .i64 0),(.int .i64 1)]) (ah (aA .i64) [0,1]),(by intro i hi j hj;match i,j,hi,hj with|0,0,_,_=>rfl|1,0,_,_=>rfl)⟩, .pf ⟨[[0,1]].length=1,rfl⟩, .pf ⟨av 1 1 (eO 1 P8) (eO 1 P8),bI _ _ _⟩, .k 0]<| .it (.r<| .e false)
  (.r<| .cl 1 (fw [(0,62)] (ig (⟨u1.plant,u1.state,u1.transfers,u1.jobs,u1.people,true⟩:aj))) fun v0=> .r<| .cl 1 (fw [(0,63)] (kV (⟨u1.plant,u1.state,u1.transfers,u1.jobs,u1.people,true⟩:aj))) fun u6=> .rg {fz:=[63]} []<| .fk (bif (!decide (v0.2=4))then true else(!decide (u6.2=0))) (.rg {ov:=[(6,true,0)],sk:=[7,8,9,10,11,12]} []<| .t<| .r<| .e false)
  (.cr 11 ⟨fun{u9} hr_10=>((Fn.vE (frz:=[66]) (p:=[[[0],[1]].length=[[0],[1]].length]) (Fn.le (args':=[(sD (aH none 1 (wF 1 (aA .i64)) u6.1)),(sD (.sl (some true) 1 [[0],[1]].length (eO 1 P9)))]) (jm u6.1 [[0],[1]] hr_10) (by exact⟨mO.refl _,mO.one (jG.d (dW.sl (.inl rfl) (by intro i hi j hj;match i,j,hi,hj with|0,0,_,_=>exact dW.jZ|1,0,_,_=>exact dW.jZ))),trivial⟩)) (by kernel_rfl) ⟨rfl,trivial⟩ rfl):Fn Tryz.prog 29 [(sD (aH none 1 (wF 1 (aA .i64)) u6.1)),(.one (.own 66 true ([[0],[1]].length)))] WM (vB u9) WM)⟩ fun u9=> .rg {an:=[(8, .frz [0].length (ah (aA .i64) [0])),(9, .frz [1].length (ah (aA .i64) [1])),(10, .arr [[0],[1]].length (eO 1 P9))],fr:=[(10,66)],ov:=[(6,false,1)]} [.pf ⟨[0].length=1,rfl⟩, .pf ⟨av 1 1 (eO 1 [(.int .i64 0)]) (ah (aA .i64) [0]),(by intro i hi j hj;match i,j,hi,hj with|0,0,_,_=>rfl)⟩, .pf ⟨[1].length=1,rfl⟩, .pf ⟨av 1 1 (eO 1 [(.int .i64 1)]) (ah (aA .i64) [1]),(by intro i hi j hj;match i,j,hi,hj with|0,0,_,_=>rfl)⟩, .pf ⟨[[0],[1]].length=2,rfl⟩, .pf ⟨av 2 1 (eO 1 P9) (eO 1 P9),bI _ _ _⟩, .k 0]<| .it (.r<| .e false)
  (.cl 0 jr fun v1=> .cl 1 (fw [(0,67),(1,68),(2,69),(3,70),(4,71),(5,72),(6,73),(7,74),(8,75),(9,76),(10,77),(11,78),(12,79)] (jR v1)) fun u0=> .r<| .r<| .it (.r<| .e false)
  (.a2 ((0:Int)≤0∧0<(u0.jobs.length:Int)) ((0:Int)≤1∧1<(u0.jobs.length:Int))<| .rg {an:=[(6, .frz [0].length (ah (aA .i64) [0])),(9, .arr 0 (UY u0)),(12, .arr 0 (UZ u0)),(15, .arr 0 (SE u0))],fz:=[67,68,69,70,71,72,73,74,75,76,77,78]} [.pf ⟨[0].length=1,rfl⟩, .pf ⟨av 1 1 (eO 1 [(.int .i64 0)]) (ah (aA .i64) [0]),(by intro i hi j hj;match i,j,hi,hj with|0,0,_,_=>rfl)⟩,0, .t 0 0 u0.jobs.length, .pf ⟨av u0.jobs.length 6 (bW (ah aC.cell u0.jobs) 0 3 [(.int .i64 4)]) (UY u0),aR _ _ _ _ _ _ _ _ rfl (fun j hj=>(match j,hj with|0,_=>rfl|1,_=>rfl|2,_=>rfl|3,_=>rfl|4,_=>rfl|5,_=>rfl))⟩,1, .t 1 1 u0.jobs.length, .pf ⟨av u0.jobs.length 6 (bW (UY u0) 1 3 [(.int .i64 4)]) (UZ u0),aR _ _ _ _ _ _ _ _ (by simp only [List.length_set]) (fun j hj=>(match j,hj with|0,_=>rfl|1,_=>rfl|2,_=>rfl|3,_=>rfl|4,_=>rfl|5,_=>rfl))⟩,1, .t 1 1 u0.jobs.length, .pf ⟨av u0.jobs.length 6 (SE u0) (SE u0),bI _ _ _⟩]<| .im (.uh 54 (some (.cells 73 [(cI u0.plant.buses),(.d (Sr u0)),(.d (aH none 6 Link.cell u0.plant.links)),(.d (aH none 4 aO.cell u0.plant.racks)),(.d (aH none 1 af u0.state.closed)),(.d (aH none 1 af u0.state.locked)),(.d (Pm u0)),(.d (aH none 1 af u0.state.on_)),(.d (PL u0)),(.d (aH none 1 af u0.state.earthed)),(.d (Qo u0)),(.d (Tk u0)),(.d (.sl none 6 u0.jobs.length (SE u0))),(cI u0.people),(cB u0.redundant)])) (some (.cells 73 [(cI u0.plant.buses),(.d (Sr u0)),(.d (aH none 6 Link.cell u0.plant.links)),(.d (aH none 4 aO.cell u0.plant.racks)),(.d (aH none 1 af u0.state.closed)),(.d (aH none 1 af u0.state.locked)),(.d (Pm u0)),(.d (aH none 1 af u0.state.on_)),(.d (PL u0)),(.d (aH none 1 af u0.state.earthed)),(.d (Qo u0)),(.d (Tk u0)),(.d (aH none 6 aC.cell (Zo u0))),(cI u0.people),(cB u0.redundant)])) (jL ⟨jG.refl _,jG.refl _,jG.refl _,jG.refl _,jG.refl _,jG.refl _,jG.refl _,jG.refl _,jG.refl _,jG.refl _,jG.refl _,jG.refl _,jG.d (dW.Wz (by first|rw [List.length_append,List.length_drop]|simp only [List.length_set,List.length_drop,dH]|exact List.length_replicate) (.inr rfl) (Ru aC.cell (Uk u0) _ _ 1 5 [(aH (some true) 1 (aA .i64) [0])] (Xc u0) (by simp only [List.length_set]) (fun j hj=>match j,hj with|0,_=> .refl _|1,_=> .refl _|2,_=> .refl _|3,_=> .refl _|4,_=> .refl _|5,_=>dW.jZ))),jG.refl _,jG.refl _,trivial⟩))<| .fz [54]<| .cl 1 (fw [(0,81)] (ig (⟨u0.plant,u0.state,u0.transfers,(Zo u0),u0.people,u0.redundant⟩:aj))) fun v2=> .r<| .r<| .e (decide (v2.2=4)))))))))
theorem tQ:bN Tryz.prog 22 [] [] (fun r=>(.v (.agg [(cI r.plant.buses),(.d (aH none 5 Source.cell r.plant.sources)),(.d (aH none 6 Link.cell r.plant.links)),(.d (aH none 4 aO.cell r.plant.racks)),(.d (aH none 1 af r.state.closed)),(.d (aH none 1 af r.state.locked)),(.d (aH none 1 af r.state.badLink)),(.d (aH none 1 af r.state.on_)),(.d (aH none 1 af r.state.badSource)),(.d (aH none 1 af r.state.earthed)),(.d (aH none 1 af r.state.badBus)),(.d (aH none 3 Transfer.cell r.transfers)),(.own 0 true ([(⟨[(⟨3,0⟩:Part)],2,0,10,2,([]:List Int)⟩:aC),(⟨[(⟨3,1⟩:Part)],3,0,10,2,([]:List Int)⟩:aC)].length)),(cI r.people),(cB r.redundant)]))) (fun r=>[(0,some (.arr 81 6 [(⟨[(⟨3,0⟩:Part)],2,0,10,2,([]:List Int)⟩:aC),(⟨[(⟨3,1⟩:Part)],3,0,10,2,([]:List Int)⟩:aC)].length (eO 6 [k2,(.int .i64 2),(.int .i64 0),(.int .i64 10),(.int .i64 2),nS,k3,(.int .i64 3),(.int .i64 0),(.int .i64 10),(.int .i64 2),nS]))),(1,none)]) (bX):=
  bO tT mX Tryz.func22 (
  .rg {fr:=[(0,16)]} []<| .r<| .cl 4 (dA 0 2) fun r_=> .cl 6 (dA 1 3) fun u0=> .cl 8 (dA 2 3) fun u1=> .rg {an:=[(2, .arr [(⟨0,1,500,1,20⟩:Source),(⟨1,1,500,1,20⟩:Source)].length (ah Source.cell [(⟨0,1,500,1,20⟩:Source),(⟨1,1,500,1,20⟩:Source)])),(9, .arr [r_,u0,u1].length (ah Link.cell [r_,u0,u1])),(12, .arr [(⟨(⟨2,3⟩:ai),100,2⟩:aO)].length (ah aO.cell [(⟨(⟨2,3⟩:ai),100,2⟩:aO)]))],fr:=[(2,17),(9,18),(12,19),(14,20)]} [.pf ⟨[(⟨0,1,500,1,20⟩:Source),(⟨1,1,500,1,20⟩:Source)].length=2,rfl⟩, .pf ⟨av 2 5 (eO 5 k0) (ah Source.cell [(⟨0,1,500,1,20⟩:Source),(⟨1,1,500,1,20⟩:Source)]),(by intro i hi j hj;match i,j,hi,hj with|0,0,_,_=>rfl|0,1,_,_=>rfl|0,2,_,_=>rfl|0,3,_,_=>rfl|0,4,_,_=>rfl|1,0,_,_=>rfl|1,1,_,_=>rfl|1,2,_,_=>rfl|1,3,_,_=>rfl|1,4,_,_=>rfl)⟩,2,1,0, .pf ⟨[r_,u0,u1].length=3,rfl⟩, .pf ⟨av 3 6 (k1 r_ u0 u1) (ah Link.cell [r_,u0,u1]),(by intro i hi j hj;match i,j,hi,hj with|0,0,_,_=>rfl|0,1,_,_=>rfl|0,2,_,_=>rfl|0,3,_,_=>rfl|0,4,_,_=>rfl|0,5,_,_=>rfl|1,0,_,_=>rfl|1,1,_,_=>rfl|1,2,_,_=>rfl|1,3,_,_=>rfl|1,4,_,_=>rfl|1,5,_,_=>rfl|2,0,_,_=>rfl|2,1,_,_=>rfl|2,2,_,_=>rfl|2,3,_,_=>rfl|2,4,_,_=>rfl|2,5,_,_=>rfl)⟩, .pf ⟨[(⟨(⟨2,3⟩:ai),100,2⟩:aO)].length=1,rfl⟩, .pf ⟨av 1 4 (eO 4 [(.int .i64 2),(.int .i64 3),(.int .i64 100),(.int .i64 2)]) (ah aO.cell [(⟨(⟨2,3⟩:ai),100,2⟩:aO)]),(by intro i hi j hj;match i,j,hi,hj with|0,0,_,_=>rfl|0,1,_,_=>rfl|0,2,_,_=>rfl|0,3,_,_=>rfl)⟩]<| .as _ inferInstance [(0:Int)≤3,(1:Int)*3≤281474976710656,(3:Int)≤9223372036854775807,(0:Int)≤2,(1:Int)*2≤281474976710656,(2:Int)≤9223372036854775807,(0:Int)≤4,(1:Int)*4≤281474976710656,(4:Int)≤9223372036854775807] (fun h=> ⟨h.1,h.2.1,h.2.2.1,h.2.2.2.1,h.2.2.2.2.1,h.2.2.2.2.2.1,h.2.2.2.2.2.2.1,h.2.2.2.2.2.2.2.1,h.2.2.2.2.2.2.2.2,trivial⟩:(((0:Int)≤3)∧((1:Int)*3≤281474976710656)∧((3:Int)≤9223372036854775807)∧((0:Int)≤2)∧((1:Int)*2≤281474976710656)∧((2:Int)≤9223372036854775807)∧((0:Int)≤4)∧((1:Int)*4≤281474976710656)∧((4:Int)≤9223372036854775807))→_)<| .rg {an:=[(0, .arr [true,true,false].length (ah af [true,true,false])),(1, .arr (List.replicate 3 (false:Bool)).length (ah af (List.replicate 3 (false:Bool)))),(2, .arr (List.replicate 3 (false:Bool)).length (ah af (List.replicate 3 (false:Bool)))),(3, .arr [true,true].length (ah af [true,true])),(4, .arr (List.replicate 2 (false:Bool)).length (ah af (List.replicate 2 (false:Bool)))),(5, .arr (List.replicate 4 (false:Bool)).length (ah af (List.replicate 4 (false:Bool)))),(6, .arr (List.replicate 4 (false:Bool)).length (ah af (List.replicate 4 (false:Bool))))],fr:=[(0,21),(1,22),(2,23),(3,24),(4,25),(5,26),(6,27),(8,28)]} [.pf ⟨[true,true,false].length=3,rfl⟩, .pf ⟨av 3 1 (eO 1 [(.bool true),(.bool true),(.bool false)]) (ah af [true,true,false]),(by intro i hi j hj;match i,j,hi,hj with|0,0,_,_=>rfl|1,0,_,_=>rfl|2,0,_,_=>rfl)⟩,0, .e ((3:Int)),1,2, .pf ⟨(List.replicate 3 (false:Bool)).length=3,List.length_replicate⟩, .pf ⟨av 3 1 (fun _ j=>[(.bool false)].getD j .nilp) (ah af (List.replicate 3 (false:Bool))),bY _ _ _ _ _ (fun j hj=>(match j,hj with|0,_=>rfl))⟩,0, .e ((3:Int)),1,2, .pf ⟨(List.replicate 3 (false:Bool)).length=3,List.length_replicate⟩, .pf ⟨av 3 1 (fun _ j=>[(.bool false)].getD j .nilp) (ah af (List.replicate 3 (false:Bool))),bY _ _ _ _ _ (fun j hj=>(match j,hj with|0,_=>rfl))⟩, .pf ⟨[true,true].length=2,rfl⟩, .pf ⟨av 2 1 (eO 1 [(.bool true),(.bool true)]) (ah af [true,true]),(by intro i hi j hj;match i,j,hi,hj with|0,0,_,_=>rfl|1,0,_,_=>rfl)⟩,3, .e ((2:Int)),4,5, .pf ⟨(List.replicate 2 (false:Bool)).length=2,List.length_replicate⟩, .pf ⟨av 2 1 (fun _ j=>[(.bool false)].getD j .nilp) (ah af (List.replicate 2 (false:Bool))),bY _ _ _ _ _ (fun j hj=>(match j,hj with|0,_=>rfl))⟩,6, .e ((4:Int)),7,8, .pf ⟨(List.replicate 4 (false:Bool)).length=4,List.length_replicate⟩, .pf ⟨av 4 1 (fun _ j=>[(.bool false)].getD j .nilp) (ah af (List.replicate 4 (false:Bool))),bY _ _ _ _ _ (fun j hj=>(match j,hj with|0,_=>rfl))⟩,6, .e ((4:Int)),7,8, .pf ⟨(List.replicate 4 (false:Bool)).length=4,List.length_replicate⟩, .pf ⟨av 4 1 (fun _ j=>[(.bool false)].getD j .nilp) (ah af (List.replicate 4 (false:Bool))),bY _ _ _ _ _ (fun j hj=>(match j,hj with|0,_=>rfl))⟩]<| .rg {an:=[(3, .frz [(⟨3,0⟩:Part)].length (ah Part.cell [(⟨3,0⟩:Part)])),(6, .frz [(⟨3,1⟩:Part)].length (ah Part.cell [(⟨3,1⟩:Part)])),(8, .arr [(⟨[(⟨3,0⟩:Part)],2,0,10,2,([]:List Int)⟩:aC),(⟨[(⟨3,1⟩:Part)],3,0,10,2,([]:List Int)⟩:aC)].length (eO 6 [k2,(.int .i64 2),(.int .i64 0),(.int .i64 10),(.int .i64 2),nS,k3,(.int .i64 3),(.int .i64 0),(.int .i64 10),(.int .i64 2),nS]))],fr:=[(8,31)]} [.pf ⟨[(⟨3,0⟩:Part)].length=1,rfl⟩, .pf ⟨av 1 2 (eO 2 [(.int .i64 3),(.int .i64 0)]) (ah Part.cell [(⟨3,0⟩:Part)]),(by intro i hi j hj;match i,j,hi,hj with|0,0,_,_=>rfl|0,1,_,_=>rfl)⟩, .pf ⟨[(⟨3,1⟩:Part)].length=1,rfl⟩, .pf ⟨av 1 2 (eO 2 [(.int .i64 3),(.int .i64 1)]) (ah Part.cell [(⟨3,1⟩:Part)]),(by intro i hi j hj;match i,j,hi,hj with|0,0,_,_=>rfl|0,1,_,_=>rfl)⟩, .pf ⟨[(⟨[(⟨3,0⟩:Part)],2,0,10,2,([]:List Int)⟩:aC),(⟨[(⟨3,1⟩:Part)],3,0,10,2,([]:List Int)⟩:aC)].length=2,rfl⟩, .pf ⟨av 2 6 (eO 6 [k2,(.int .i64 2),(.int .i64 0),(.int .i64 10),(.int .i64 2),nS,k3,(.int .i64 3),(.int .i64 0),(.int .i64 10),(.int .i64 2),nS]) (eO 6 [k2,(.int .i64 2),(.int .i64 0),(.int .i64 10),(.int .i64 2),nS,k3,(.int .i64 3),(.int .i64 0),(.int .i64 10),(.int .i64 2),nS]),bI _ _ _⟩]<| .en (k7 r_ u0 u1) [17,18,19,21,22,23,24,25,26,27] [(31,0),(16,1)])
end
end Sg
