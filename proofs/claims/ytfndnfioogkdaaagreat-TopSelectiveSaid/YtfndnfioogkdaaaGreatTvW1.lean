import Derived.Test.YtfndnfioogkdaaaGreatTvW0
set_option linter.all false
namespace Sg
open Go Go.Proofs
set_option maxRecDepth 20000
noncomputable section
section
variable (u0:(List (List Int))) (u3:(List Bool)) (u5:(List ai)) (x1:(List dK)) (u1:Int) (u2:Int)
abbrev OB:=(List.replicate ((u0.length:Int).toNat) (false:Bool))
abbrev aaf:=(ay ah (OB u0))
abbrev Xq:=((OB u0).set 0 true)
abbrev abW:List (Nat × Option Ob):=[(52,some (aV 4 1 ah u3)),(53,some (.cells 147 [(.own 54 false u5.length)])),(54,some (aV 41 2 ai.cell u5))]
abbrev Ia:=(at' x1 ((at' (at' u0 u1.toNat) u2.toNat).toNat))
abbrev X8:=(u3.set (((Ia u0 x1 u1 u2).to_).toNat) true)
end
theorem qj (x1:(List dK)) (u0:(List (List Int))) (u4:au) (o_:(List Bool)):dJ Tryz.prog 58 [(.one (.yl 0)),(sD (zB [(zB [(bJ none 2 dK.cell x1),(bJ none 1 (Ae 1 (aC .i64)) u0)] 0)] 0))] (aa8 u4 o_) (fun r=>(.fU [])) (fun r=>[aay,(Zx u4),(2,some (.cells 27 [(.own 3 true r.length)])),(3,some (aV 4 1 ah r))]) (lg x1 u0 u4 o_):=
  dR tT mX Tryz.func58 (
  .a3 ((0:Int)≤(u0.length:Int)) ((1:Int)*(u0.length:Int)≤281474976710656) (((u0.length:Int):Int)≤9223372036854775807)<| .rg {an:=[(5, .arr (OB u0).length (aaf u0))],fr:=[(5,52)]} [0, .e (((u0.length:Int):Int)),1,2, .pf ⟨(OB u0).length=((u0.length:Int).toNat),List.length_replicate⟩, .pf ⟨aS ((u0.length:Int).toNat) 1 (fun _ j=>[(.bool false)].getD j .nilp) (aaf u0),kN _ _ _ _ _ (fun j hj=>(match j,hj with|0,_=>rfl))⟩]<| .a1 ((0:Int)≤0∧0<((OB u0).length:Int))<| .rg {an:=[(2, .arr 0 (ay ah (Xq u0)))]} [0, .t 0 0 ((OB u0).length), .pf ⟨aS (OB u0).length 1 (jK (aaf u0) 0 0 [(.bool true)]) (ay ah (Xq u0)),bO _ _ _ _ _ _ _ _ rfl (fun j hj=>(match j,hj with|0,_=>rfl))⟩]<| .im (.ll 52 (OB u0) (Xq u0))<| .rg {fr:=[(0,53)]} []<| .im (.kP 53 0 54 41 2 (ay ai.cell ([]:List ai)))<| .rg {fr:=[(1,55)]} []<| .lp (σ:=((List Bool) × (List Bool) × (List ai) × Int × Int)) (β:=Unit) (o_,(Xq u0),([]:List ai),0,(-1)) [] [] ⟨[0,1,4,5],[0,1],fun(u6,u7,q0,u1,v0)=>[(3,(vO 52 true u7.length))],fun(u6,u7,q0,u1,v0)=>[(2,some (.cells 27 [(.own 3 true u6.length)])),(3,some (aV 4 1 ah u6)),(52,some (aV 4 1 ah u7)),(53,some (.cells 147 [(.own 54 false q0.length)])),(54,some (aV 41 2 ai.cell q0)),(55,some (.cells 41 [(cI u1),(cI v0)]))]⟩ ⟨[],[],fun _=>[],fun _=>[]⟩
  (fun(u6,u7,q0,u1,v0)=> .cy 5 (AL u1 v0 u4 u6) fun r_=> .rg {} [.pf ⟨(0:Int)≤0∧(0:Int)<(2:Nat),(by decide)⟩, .pf ⟨(0:Int)≤1∧(1:Int)<(2:Nat),(by decide)⟩,0]<| .f<| .a1 ((0:Int)≤u1∧u1<(u0.length:Int))<| .rg {} [.pf ⟨(0:Int)≤0∧(0:Int)<(2:Nat),(by decide)⟩,0]<| .lp (σ:=((List Bool) × (List ai) × Int)) (β:=((List Bool) × (List ai))) (u7,q0,0) [] [] ⟨[0,1,4,5,34,35],[0,1,2,3,55],fun(u3,u5,u2)=>[(3,(vO 52 true u3.length)),(36,(vI u2))],fun(u3,u5,u2)=>(abW u3 u5)⟩ ⟨[0,1,4,5],[0,1,2,3,55],fun(u8,u9)=>[(3,(vO 52 true u8.length))],fun(u8,u9)=>(abW u8 u9)⟩
  (fun(u3,u5,u2)=> .r<| .it (.a1 ((0:Int)≤u2∧u2<((at' u0 u1.toNat).length:Int))<| .r<| .a1 ((0:Int)≤(at' (at' u0 u1.toNat) u2.toNat)∧(at' (at' u0 u1.toNat) u2.toNat)<(x1.length:Int))<| .rg {fr:=[(7,95)]} []<| .a1 ((gB [((decide (0<((Ia u0 x1 u1 u2).left))),true)]=true→(0:Int)≤(Ia u0 x1 u1 u2).to_∧(Ia u0 x1 u1 u2).to_<(u3.length:Int)))<| .rg {} [0, .tg 0 [((decide (0<((Ia u0 x1 u1 u2).left))),true)] ((Ia u0 x1 u1 u2).to_) u3.length]<| .it (.a1 ((0:Int)≤(Ia u0 x1 u1 u2).to_∧(Ia u0 x1 u1 u2).to_<(u3.length:Int))<| .rg {an:=[(4, .arr 0 (ay ah (X8 u0 u3 x1 u1 u2)))],fz:=[95]} [0, .t 0 ((Ia u0 x1 u1 u2).to_) u3.length, .pf ⟨aS u3.length 1 (jK (ay ah u3) (((Ia u0 x1 u1 u2).to_).toNat) 0 [(.bool true)]) (ay ah (X8 u0 u3 x1 u1 u2)),bO _ _ _ _ _ _ _ _ rfl (fun j hj=>(match j,hj with|0,_=>rfl))⟩]<| .im (.ll 52 u3 (X8 u0 u3 x1 u1 u2))<| .cl 4 (dS [(0,53),(1,54),(2,96)] (qZ (⟨(Ia u0 x1 u1 u2).to_,(at' (at' u0 u1.toNat) u2.toNat)⟩:ai) (⟨u5⟩:bQ))) fun v2=> .r<| .r<| .en (.next ((X8 u0 u3 x1 u1 u2),v2.l,(k11 u2))) [] [(96,54)])
  (.r<| .e (.next (u3,u5,(k11 u2)))))
  (.e (.done (.brk (u3,u5)))))
  (fun(u8,u9)=> .cl 0 (dS [(0,53),(1,54),(2,97)] (qJ (⟨u9⟩:bQ))) fun v1=> .rg {fr:=[(4,98)]} []<| .r<| .it (.e (.done (.ret r_)))
  (.r<| .r<| .rg {fr:=[(0,99)]} []<| .en (.next (r_,u8,v1.2.2.l,v1.1.e0,v1.1.e1)) [] [(97,54),(99,55)])))
  (fun _=> .no))
theorem E8 (x:gV):dJ Tryz.prog 13 [(.agg [(.d (bJ none 1 (aC .i64) x.sources)),(.d (bJ none 1 (aC .i64) x.links)),(.d (bJ none 2 ai.cell x.racks))])] [] (fun r=>(vI r)) (fun _=>[]) (BZ x):=
  dR tT mX Tryz.func13 (
  .rg {fr:=[(0,5)]} []<| .r<| .r<| .lp (σ:=(Int × Int)) (β:=Int) (0,0) [] [] ⟨[7,8],[],fun(n,t9)=>[(3,(vI n)),(9,(vI t9))],fun(n,t9)=>[]⟩ ⟨[],[],fun n1=>[(3,(vI n1))],fun n1=>[]⟩
  (fun(n,t9)=> .r<| .it (.a1 ((0:Int)≤t9∧t9<(x.racks.length:Int))<| .rg {fr:=[(2,9)],fz:=[9]} []<| .rg {} [.pf ⟨(0:Int)≤0∧(0:Int)<(2:Nat),(by decide)⟩, .pf ⟨(0:Int)≤1∧(1:Int)<(2:Nat),(by decide)⟩]<| .r<| .e (.next ((IntKind.wrap .i64 (n+(IntKind.wrap .i64 (((at' x.racks t9.toNat).e0)+((at' x.racks t9.toNat).e1))))),(k11 t9))))
  (.e (.done (.brk n))))
  (fun n1=> .r<| .e n1))
theorem zJ (i:Int) (x1:Int):dJ Tryz.prog 102 [(sI i),(sD (zB [(.int .i64 x1)] 0))] [] (fun r=>(vB r)) (fun _=>[]) (tX i x1):=
  dR tT mX Tryz.func102 (
  .r<| .r<| .e (bif (decide (i<0))then true else(decide (x1≤i))))
theorem wG (s_:(List Int)) (f_:Int):dJ Tryz.prog 119 [(sD (O8 s_)),(sD (.fn 102 1 (bT [(zB [(.int .i64 f_)] 0)])))] [] (fun r=>(vI r)) (fun _=>[]) (pR s_ f_):=
  dR tT mX Tryz.func119 (
  .r<| .r<| .lp (σ:=Int) (β:=Unit) (0) [] [] ⟨[0,1,7],[],fun t8=>[(8,(vI t8))],fun t8=>[]⟩ ⟨[],[],fun _=>[],fun _=>[]⟩
  (fun t8=> .r<| .it (.r<| .cl 5 (zJ (at' s_ t8.toNat) f_) fun r_=> .a1 (Rx s_ t8)<| .rg {} [0,1]<| .it (.r<| .e (.done (.ret t8)))
  (.r<| .e (.next (k11 t8))))
  (.e (.done (.brk ()))))
  (fun _=> .r<| .e (-1)))
theorem sH (s_:(List Int)) (f_:Int):dJ Tryz.prog 101 [(sD (O8 s_)),(sD (.fn 102 1 (bT [(zB [(.int .i64 f_)] 0)])))] [] (fun r=>(vB r)) (fun _=>[]) (mW s_ f_):=
  dR tT mX Tryz.func101 (
  .r<| .cl 2 (wG s_ f_) fun r_=> .r<| .e (decide (0≤r_)))
theorem rC (l:(List Int)) (n:Int):dJ Tryz.prog 100 [(sD (O8 l)),(sI n)] [] (fun r=>(vB r)) (fun _=>[]) (p9 l n):=
  dR tT mX Tryz.func100 (
  .rg {fr:=[(0,1)],fz:=[1]} []<| .cg 6 [((decide ((l.length:Int)≤24)),true)] (sH l n) fun r_=> .r<| .e (bif (decide ((l.length:Int)≤24))then(!r_)else false))
section
variable (x:aJ) (p:au)
abbrev PS:List CV:=[(cI x.deed),(cI x.index)]
abbrev Ws:=((gB [((bif (decide (0≤x.index))then(decide (x.index<(p.links.length:Int)))else false),true)]=true→(0:Int)≤x.index∧x.index<(p.links.length:Int)))
abbrev Xb:=(bif (bif (decide (0≤x.index))then(decide (x.index<(p.links.length:Int)))else false)then(!decide (((at' p.links x.index.toNat).kind)=1))else false)
abbrev Ou:=(bif (decide (0≤x.index))then(decide (x.index<p.buses))else false)
abbrev BF:=(bif (decide (0≤x.index))then(decide (x.index<(p.sources.length:Int)))else false)
abbrev Bz:=((gB [((bif (decide (0≤x.index))then(decide (x.index<0))else false),true)]=true→(0:Int)≤x.index∧x.index<(p.links.length:Int)))
abbrev Bv:=(bif (bif (decide (0≤x.index))then(decide (x.index<0))else false)then(!decide (((at' p.links x.index.toNat).kind)=1))else false)
end
theorem wC (p:au) (x:aJ):dJ Tryz.prog 106 [(.agg (k1 p)),(.agg (PS x))] [] (fun r=>(vB r)) (fun _=>[]) (uq p x):=
  dR tT mX Tryz.func106 (
  .rg {fr:=[(0,2),(1,3)],fz:=[2,3]} []<| .r<| .r<| .r<| .it (.it (.r<| .a1 (Ws x p)<| .r<| .e (Xb x p))
  (.r<| .it (.it (.r<| .e (Ou x p))
  (.r<| .it (.it (.r<| .e (BF x p))
  (.a1 (Bz x p)<| .r<| .e (Bv x p)))
  (.r<| .it (.r<| .e (BF x p))
  (.a1 (Bz x p)<| .r<| .e (Bv x p)))))
  (.r<| .it (.r<| .e (Ou x p))
  (.r<| .it (.it (.r<| .e (BF x p))
  (.a1 (Bz x p)<| .r<| .e (Bv x p)))
  (.r<| .it (.r<| .e (BF x p))
  (.a1 (Bz x p)<| .r<| .e (Bv x p)))))))
  (.r<| .it (.it (.r<| .a1 (Ws x p)<| .r<| .e (Xb x p))
  (.r<| .it (.it (.r<| .e (Ou x p))
  (.r<| .it (.it (.r<| .e (BF x p))
  (.a1 (Bz x p)<| .r<| .e (Bv x p)))
  (.r<| .it (.r<| .e (BF x p))
  (.a1 (Bz x p)<| .r<| .e (Bv x p)))))
  (.r<| .it (.r<| .e (Ou x p))
  (.r<| .it (.it (.r<| .e (BF x p))
  (.a1 (Bz x p)<| .r<| .e (Bv x p)))
  (.r<| .it (.r<| .e (BF x p))
  (.a1 (Bz x p)<| .r<| .e (Bv x p)))))))
  (.r<| .it (.it (.r<| .a1 (Ws x p)<| .r<| .e (Xb x p))
  (.r<| .it (.it (.r<| .e (Ou x p))
  (.r<| .it (.it (.r<| .e (BF x p))
  (.a1 (Bz x p)<| .r<| .e (Bv x p)))
  (.r<| .it (.r<| .e (BF x p))
  (.a1 (Bz x p)<| .r<| .e (Bv x p)))))
  (.r<| .it (.r<| .e (Ou x p))
  (.r<| .it (.it (.r<| .e (BF x p))
  (.a1 (Bz x p)<| .r<| .e (Bv x p)))
  (.r<| .it (.r<| .e (BF x p))
  (.a1 (Bz x p)<| .r<| .e (Bv x p)))))))
  (.r<| .it (.r<| .a1 (Ws x p)<| .r<| .e (Xb x p))
  (.r<| .it (.it (.r<| .e (Ou x p))
  (.r<| .it (.it (.r<| .e (BF x p))
  (.a1 (Bz x p)<| .r<| .e (Bv x p)))
  (.r<| .it (.r<| .e (BF x p))
  (.a1 (Bz x p)<| .r<| .e (Bv x p)))))
  (.r<| .it (.r<| .e (Ou x p))
  (.r<| .it (.it (.r<| .e (BF x p))
  (.a1 (Bz x p)<| .r<| .e (Bv x p)))
  (.r<| .it (.r<| .e (BF x p))
  (.a1 (Bz x p)<| .r<| .e (Bv x p))))))))))
theorem zF (x:aJ) (x1:Int) (u0:(List Source)) (u1:(List Link)) (u2:(List aU)):dJ Tryz.prog 105 [(.agg (PS x)),(sD (k4 u0 x1 u1 u2))] [] (fun r=>(vB r)) (fun _=>[]) (tF x x1 u0 u1 u2):=
  dR tT mX Tryz.func105 (
  .rg {fr:=[(0,1)],fz:=[1]} []<| .cl 2 (wC (⟨x1,u0,u1,u2⟩:au) x) fun r_=> .r<| .e (!r_))
section
variable (s_:(List aJ)) (f_:Int) (u0:(List Source)) (u1:(List Link)) (u2:(List aU))
abbrev ac5:List SV:=[(sD (bJ none 2 aJ.cell s_)),(sD (.fn 105 1 (k9 f_ u0 u1 u2)))]
end
theorem wY (s_:(List aJ)) (f_:Int) (u0:(List Source)) (u1:(List Link)) (u2:(List aU)):dJ Tryz.prog 120 (ac5 s_ f_ u0 u1 u2) [] (fun r=>(vI r)) (fun _=>[]) (pM s_ f_ u0 u1 u2):=
  dR tT mX Tryz.func120 (
  .r<| .r<| .lp (σ:=Int) (β:=Unit) (0) [] [] ⟨[0,1,7],[],fun t8=>[(8,(vI t8))],fun t8=>[]⟩ ⟨[],[],fun _=>[],fun _=>[]⟩
  (fun t8=> .r<| .it (.r<| .cl 5 (zF (at' s_ t8.toNat) f_ u0 u1 u2) fun r_=> .a1 ((0:Int)≤t8∧t8<(s_.length:Int))<| .rg {} [0,1]<| .it (.r<| .e (.done (.ret t8)))
  (.r<| .e (.next (k11 t8))))
  (.e (.done (.brk ()))))
  (fun _=> .r<| .e (-1)))
theorem rR (s_:(List aJ)) (f_:Int) (u0:(List Source)) (u1:(List Link)) (u2:(List aU)):dJ Tryz.prog 104 (ac5 s_ f_ u0 u1 u2) [] (fun r=>(vB r)) (fun _=>[]) (mU s_ f_ u0 u1 u2):=
  dR tT mX Tryz.func104 (
  .r<| .cl 2 (wY s_ f_ u0 u1 u2) fun r_=> .r<| .e (decide (0≤r_)))
theorem ru (l:(List aJ)) (x1:Int) (u0:(List Source)) (u1:(List Link)) (u2:(List aU)):dJ Tryz.prog 103 [(sD (bJ none 2 aJ.cell l)),(sD (k4 u0 x1 u1 u2))] [] (fun r=>(vB r)) (fun _=>[]) (qm l x1 u0 u1 u2):=
  dR tT mX Tryz.func103 (
  .r<| .cg 6 [((decide ((l.length:Int)≤24)),true)] (rR l x1 u0 u1 u2) fun r_=> .r<| .e (bif (decide ((l.length:Int)≤24))then(!r_)else false))
section
variable (t:Task)
abbrev OG:List CV:=[(.d (bJ none 1 (aC .i64) t.fed)),(.d (bJ none 1 (aC .i64) t.crew)),(.d (bJ none 2 aJ.cell t.allowed)),(.d (bJ none 2 aJ.cell t.goal))]
end
theorem DZ (p:au) (t:Task):dJ Tryz.prog 79 [(.agg (k1 p)),(.agg (OG t))] [] (fun r=>(vB r)) (fun _=>[]) (Af p t):=
  dR tT mX Tryz.func79 (
  .rg {fr:=[(0,2),(1,3)],fz:=[2,3]} []<| .r<| .r<| .cl 6 (rC t.fed (p.racks.length:Int)) fun r_=> .cg 13 [(r_,true)] (rC t.crew p.buses) fun u0=> .cg 19 [((bif r_ then u0 else false),true)] (ru t.allowed p.buses p.sources p.links p.racks) fun u1=> .cg 25 [((bif (bif r_ then u0 else false)then u1 else false),true)] (ru t.goal p.buses p.sources p.links p.racks) fun u2=> .r<| .e (k7 r_ u0 u1 u2))
theorem zC (p:au) (s_:State):dJ Tryz.prog 83 (k20 s_ p) [] (fun r=>(vD (.fn 113 2 (bT [(zB [(.int .i64 r.1),(bJ none 5 Source.cell r.2.1),(bJ none 6 Link.cell r.2.2.1),(bJ none 4 aU.cell r.2.2.2.1)] 0),(zB [(bJ none 1 ah r.2.2.2.2.1),(bJ none 1 ah r.2.2.2.2.2.1),(bJ none 1 ah r.2.2.2.2.2.2.1),(bJ none 1 ah r.2.2.2.2.2.2.2.1),(bJ none 1 ah r.2.2.2.2.2.2.2.2.1),(bJ none 1 ah r.2.2.2.2.2.2.2.2.2.1),(bJ none 1 ah r.2.2.2.2.2.2.2.2.2.2)] 0)])))) (fun _=>[]) (nN p s_):=
  dR tT mX Tryz.func83 (
  .rg {fr:=[(0,2),(1,3)],fz:=[2,3]} []<| .r<| .e (p.buses,p.sources,p.links,p.racks,s_.closed,s_.locked,s_.badLink,s_.on_,s_.badSource,s_.earthed,s_.badBus))
noncomputable def uF:gM:=⟨[22],LA ([1,1,0,1,0]++[0]) (nJ Tryz.f53),LA ([1,1,0,1,0]++[1]) (nJ Tryz.f53),125,[]⟩
section
variable (g:bR)
abbrev ZE:List (Nat × Option Ob):=[(0,some (Cg 3 3 false false 1 1 (aC .i64) (aC .i64) g.head))]
end
theorem gW (g:bR) (x:Int):dJ Tryz.prog 85 [(.agg [(.mp 0)]),(sI x)] (ZE g) (fun r=>(vI r)) (fun r=>(ZE g)) (dM g x):=
  dR tT mX Tryz.func85 (
  .rg {fr:=[(0,2)]} []<| .lp (σ:=Int) (β:=Unit) (x) [] [] ⟨[2],[0,2],fun x1=>[(1,(vI x1))],fun x1=>[]⟩ ⟨[],[],fun _=>[],fun _=>[]⟩
  (fun x1=> .rg {an:=[(3, .look (bN bn x1 g.head).isSome [(cI ((bN bn x1 g.head).getD 0))])]} [.pf ⟨dP [some .i64] 1 1 g.head.length (o9 (aC .i64) g.head) (pz (aC .i64) g.head) [(.int .i64 x1)] [(.d (.int .i64 0))] (bN bn x1 g.head).isSome [(cI ((bN bn x1 g.head).getD 0))],jg (fun _=>rfl) (fun _ _=>rfl) g.head x1 0 rfl rfl rfl⟩]<| .r<| .it (.r<| .e (.done (.ret x1)))
  (.r<| .e (.next ((bN bn x1 g.head).getD 0))))
  (fun _=> .no))
theorem yH (g:bR) (a:Int) (b:Int):dJ Tryz.prog 84 [(.agg [(.mp 0)]),(sI a),(sI b)] (ZE g) (fun r=>(.fU [])) (fun r=>[(0,some (Cg 3 3 false false 1 1 (aC .i64) (aC .i64) r))]) (jR g a b):=
  dR tT mX Tryz.func84 (
  .rg {fr:=[(0,2)]} []<| .cr 2 (gW g a) fun r_=> .cr 5 (gW g b) fun u0=> .r<| .r<| .it (.rg {an:=[(4, .map (dG bn r_ u0 g.head).length (o9 (aC .i64) (dG bn r_ u0 g.head)) (pz (aC .i64) (dG bn r_ u0 g.head)) [])]} [.pf ⟨ji [some .i64] 1 1 g.head.length (o9 (aC .i64) g.head) (pz (aC .i64) g.head) [(.int .i64 r_)] [(cI u0)] [] (dG bn r_ u0 g.head).length (o9 (aC .i64) (dG bn r_ u0 g.head)) (pz (aC .i64) (dG bn r_ u0 g.head)),tH (fun _=>rfl) (fun _ _=>rfl) g.head r_ u0 rfl rfl⟩]<| .e (dG bn r_ u0 g.head))
  (.e g.head))
section
variable (o_:bR)
abbrev aam:Nat × Option Ob:=(0,some (.loop uF 0 [(5,(vP 1 0))]))
abbrev acY:List (Nat × Option Ob):=[aam,(1,some (.cells 172 [(.mp 2)])),(2,some (Cg 3 3 false false 1 1 (aC .i64) (aC .i64) o_.head))]
end
theorem xE (u0:Int) (u1:Int) (u2:Int) (u3:Int) (u4:Int) (u5:(List qQ)) (o_:bR):Wp Tryz.prog 0 [(.agg [(cI u0),(cI u1),(cI u2),(cI u3),(cI u4),(.d (bJ none 2 qQ.cell u5))])] (acY o_) (fun _=>vB true) (fun r=>[aam,(1,some (.cells 172 [(.mp 2)])),(2,some (Cg 3 3 false false 1 1 (aC .i64) (aC .i64) r.head))]) (lY u0 u1 u2 u3 u4 u5 o_):=
  scY tT mX uF ⟨[5],[0,1,2],fun _=>[(6,(vD (zB [(.int .i64 u0),(.int .i64 u1),(.int .i64 u2),(.int .i64 u3),(.int .i64 u4),(bJ none 2 qQ.cell u5)] 0)))],fun _=>[]⟩ (.rg {fr:=[(0,4)],fz:=[4]} []<| .e ())
  (.cl 5 (dS [(0,2)] (yH o_ u0 u1)) fun r_=> .r<| .e (⟨r_⟩:bR))
section
variable (x2:(List Bool)) (u6:(List Bool)) (u2:(List Bool)) (u7:(List Bool)) (u8:(List Bool)) (u9:(List Bool)) (u1:(List Bool)) (u3:(List (Int × Int))) (t9:Int) (u0:(List Link))
abbrev Ny:DV:=(zB [(bJ none 1 ah x2),(bJ none 1 ah u6),(bJ none 1 ah u2),(bJ none 1 ah u7),(bJ none 1 ah u8),(bJ none 1 ah u9),(bJ none 1 ah u1)] 0)
abbrev Qg:Ob:=(Cg 3 3 false false 1 1 (aC .i64) (aC .i64) u3)
abbrev adO:=(bif (bif (at' x2 t9.toNat)then(!(at' u2 t9.toNat))else false)then(!(at' u1 (((at' u0 t9.toNat).a).toNat)))else false)
abbrev acu:=((gB [((bif (at' x2 t9.toNat)then(!(at' u2 t9.toNat))else false),true)]=true→(0:Int)≤(at' u0 t9.toNat).a∧(at' u0 t9.toNat).a<(u1.length:Int)))
abbrev acP:=((gB [((adO x2 u2 u1 t9 u0),true)]=true→(0:Int)≤(at' u0 t9.toNat).b∧(at' u0 t9.toNat).b<(u1.length:Int)))
end
theorem xD (x1:Int) (u4:(List Source)) (u0:(List Link)) (u5:(List aU)) (x2:(List Bool)) (u6:(List Bool)) (u2:(List Bool)) (u7:(List Bool)) (u8:(List Bool)) (u9:(List Bool)) (u1:(List Bool)) (o_:bR):dJ Tryz.prog 113 [(.one (.yl 0)),(sD (k4 u4 x1 u0 u5)),(sD (Ny x2 u6 u2 u7 u8 u9 u1))] (acY o_) (fun r=>(.fU [])) (fun r=>[aam,(1,some (.cells 172 [(.mp 2)])),(2,some (Cg 3 3 false false 1 1 (aC .i64) (aC .i64) r.head))]) (lQ x1 u4 u0 u5 x2 u6 u2 u7 u8 u9 u1 o_):=
  dR tT mX Tryz.func113 (
  .r<| .lp (σ:=((List (Int × Int)) × Int)) (β:=(List (Int × Int))) (o_.head,0) [] [] ⟨[0,2,7,8],[0,1],fun(u3,t9)=>[(9,(vI t9))],fun(u3,t9)=>[(2,some (Qg u3))]⟩ ⟨[],[0,1],fun o501=>[],fun o501=>[(2,some (Cg 3 3 false false 1 1 (aC .i64) (aC .i64) o501))]⟩
  (fun(u3,t9)=> .r<| .it (.a1 ((0:Int)≤t9∧t9<(u0.length:Int))<| .rg {fr:=[(3,10)],fz:=[10]} []<| .fk (bif (adO x2 u2 u1 t9 u0)then(!(at' u1 (((at' u0 t9.toNat).b).toNat)))else false) (.cy 34 (xE ((at' u0 t9.toNat).a) ((at' u0 t9.toNat).b) ((at' u0 t9.toNat).kind) ((at' u0 t9.toNat).most) ((at' u0 t9.toNat).fq) ((at' u0 t9.toNat).trip) (⟨u3⟩:bR)) fun r_=> .a4 ((0:Int)≤t9∧t9<(x2.length:Int)) ((gB [((at' x2 t9.toNat),true)]=true→(0:Int)≤t9∧t9<(u2.length:Int))) (acu x2 u2 u1 t9 u0) (acP x2 u2 u1 t9 u0)<| .rg {ov:=[(31,true,5)]} [0,1,2,3, .k 4]<| .f<| .r<| .e (.next (r_.head,(k11 t9))))
  (.a4 ((0:Int)≤t9∧t9<(x2.length:Int)) ((gB [((at' x2 t9.toNat),true)]=true→(0:Int)≤t9∧t9<(u2.length:Int))) (acu x2 u2 u1 t9 u0) (acP x2 u2 u1 t9 u0)<| .rg {ov:=[(31,false,4)],sk:=[32,33,34,35]} [0,1,2,3]<| .f<| .r<| .e (.next (u3,(k11 t9)))))
  (.e (.done (.brk u3))))
  (fun o501=> .e (⟨o501⟩:bR)))
section
variable (u1:(List aT)) (u2:(List (Int × Int))) (u0:Int) (u3:Int) (u5:(List aT)) (u6:Int) (u4:(List (Int × Int))) (u7:Int)
abbrev abZ:List (Nat × Option Ob):=[(60,some (.rows 140 2 u1.length (o7 aT.ev u1) none)),(61,some (Qg u2))]
abbrev wX:=((bN bn u0 u2).getD 0)
abbrev Sl:List CV:=[(cI (wX u2 u0))]
abbrev Ef:=(dG bn u0 (u1.length:Int) u2)
abbrev JQ:=(u1++[(⟨([]:List Int),([]:List Int)⟩:aT)])
abbrev ZV:=(o7 aT.ev (JQ u1))
abbrev Mq:=((bN bn u0 (Ef u1 u2 u0)).getD 0)
abbrev ZH:=((Mq u1 u2 u0).toNat)
abbrev abm:=(at' (JQ u1) (ZH u1 u2 u0))
abbrev MU:=((abm u1 u2 u0).buses)
abbrev abk:=((MU u1 u2 u0).length+[u3].length)
abbrev Tp:=((MU u1 u2 u0)++[u3])
abbrev aao:=(ay (aC .i64) (Tp u1 u2 u0 u3))
abbrev YS:=((JQ u1).set (ZH u1 u2 u0) (⟨(Tp u1 u2 u0 u3),(abm u1 u2 u0).sources⟩:aT))
abbrev aa9:=(o7 aT.ev (YS u1 u2 u0 u3))
abbrev LY:=((at' u1 ((wX u2 u0).toNat)).buses)
abbrev Tw:=((LY u1 u2 u0)++[u3])
abbrev Y8:=(ay (aC .i64) (Tw u1 u2 u0 u3))
abbrev ZY:=(u1.set ((wX u2 u0).toNat) (⟨(Tw u1 u2 u0 u3),(at' u1 ((wX u2 u0).toNat)).sources⟩:aT))
abbrev abK:=(o7 aT.ev (ZY u1 u2 u0 u3))
abbrev Lr:=((at' u5 ((wX u4 u6).toNat)).sources)
abbrev Sv:=((Lr u5 u6 u4)++[u7])
abbrev aaA:=(ay (aC .i64) (Sv u5 u6 u4 u7))
abbrev ZR:=(u5.set ((wX u4 u6).toNat) (⟨(at' u5 ((wX u4 u6).toNat)).buses,(Sv u5 u6 u4 u7)⟩:aT))
abbrev abx:=(o7 aT.ev (ZR u5 u6 u4 u7))
end
theorem iX (p:au) (s_:State):dJ Tryz.prog 53 (k20 s_ p) [] (fun r=>(vD (bJ none 2 aT.cell r))) (fun _=>[]) (jh p s_):=
  dR tT mX Tryz.func53 (
  .rg {fr:=[(0,55),(1,56)],fz:=[56]} []<| .rg {an:=[(0, .map 0 (o9 (aC .i64) ([]:(List (Int × Int)))) (pz (aC .i64) ([]:(List (Int × Int)))) [])],fr:=[(0,57),(2,58)]} []<| .cl 2 (zC p s_) fun r_=> .r<| .cl 0 (dS [(0,59),(1,58),(2,57)] (xD r_.1 r_.2.1 r_.2.2.1 r_.2.2.2.1 r_.2.2.2.2.1 r_.2.2.2.2.2.1 r_.2.2.2.2.2.2.1 r_.2.2.2.2.2.2.2.1 r_.2.2.2.2.2.2.2.2.1 r_.2.2.2.2.2.2.2.2.2.1 r_.2.2.2.2.2.2.2.2.2.2 (⟨([]:(List (Int × Int)))⟩:bR))) fun v0=> .rf 59 [5] [] none 0 []<| .r<| .im (.adR 7 60 140 2 (o7 aT.ev ([]:List aT)))<| .rg {an:=[(0, .map 0 (o9 (aC .i64) ([]:(List (Int × Int)))) (pz (aC .i64) ([]:(List (Int × Int)))) [])],fr:=[(0,61)]} []<| .r<| .lp (σ:=((List aT) × (List (Int × Int)) × Int)) (β:=((List aT) × (List (Int × Int)))) (([]:List aT),([]:(List (Int × Int))),0) [] [] ⟨[2,3,5,8,31],[55,57,58],fun(u1,u2,u3)=>[(7,(vO 60 false u1.length)),(32,(vI u3))],fun(u1,u2,u3)=>(abZ u1 u2)⟩ ⟨[2,3,5,8],[55,57,58],fun(u9,u4)=>[(7,(vO 60 false u9.length))],fun(u9,u4)=>(abZ u9 u4)⟩
  (fun(u1,u2,u3)=> .r<| .it (.r<| .a1 ((0:Int)≤u3∧u3<(s_.badBus.length:Int))<| .r<| .it (.r<| .e (.next (u1,u2,(k11 u3))))
  (.cr 2 (dS [(0,57)] (gW v0 u3)) fun u0=> .r<| .rg {an:=[(2, .look (bN bn u0 u2).isSome (Sl u2 u0))]} [.pf ⟨dP [some .i64] 1 1 u2.length (o9 (aC .i64) u2) (pz (aC .i64) u2) [(.int .i64 u0)] [(.d (.int .i64 0))] (bN bn u0 u2).isSome (Sl u2 u0),jg (fun _=>rfl) (fun _ _=>rfl) u2 u0 0 rfl rfl rfl⟩]<| .r<| .it (.rg {an:=[(4, .map (Ef u1 u2 u0).length (o9 (aC .i64) (Ef u1 u2 u0)) (pz (aC .i64) (Ef u1 u2 u0)) [])]} [.pf ⟨ji [some .i64] 1 1 u2.length (o9 (aC .i64) u2) (pz (aC .i64) u2) [(.int .i64 u0)] [(cI (u1.length:Int))] [] (Ef u1 u2 u0).length (o9 (aC .i64) (Ef u1 u2 u0)) (pz (aC .i64) (Ef u1 u2 u0)),tH (fun _=>rfl) (fun _ _=>rfl) u2 u0 (u1.length:Int) rfl rfl⟩]<| .a2 ((u1.length+[(⟨([]:List Int),([]:List Int)⟩:aT)].length)*48≤140737488355328) (u1.length+[(⟨([]:List Int),([]:List Int)⟩:aT)].length≤4611686018427387904)<| .rg {an:=[(2, .arr [(⟨([]:List Int),([]:List Int)⟩:aT)].length (pK 2 [nS,nS])),(3, .rows (JQ u1).length (ZV u1))],fr:=[(2,86),(3,87)]} [.pf ⟨[(⟨([]:List Int),([]:List Int)⟩:aT)].length=1,rfl⟩, .pf ⟨aS 1 2 (pK 2 [nS,nS]) (pK 2 [nS,nS]),yK _ _ _⟩, .e (u1.length),0,1, .pf ⟨(JQ u1).length=u1.length+[(⟨([]:List Int),([]:List Int)⟩:aT)].length,List.length_append⟩, .pf ⟨GN u1.length [(⟨([]:List Int),([]:List Int)⟩:aT)].length 2 (o7 aT.ev u1) (pK 2 [nS,nS]) (ZV u1),WB _ _ _ _ _ (by intro i hi j hj;match i,j,hi,hj with|0,0,_,_=>exact⟨rfl,_,_,_,rfl⟩|0,1,_,_=>exact⟨rfl,_,_,_,rfl⟩)⟩]<| .rg {an:=[(2, .look (bN bn u0 (Ef u1 u2 u0)).isSome [(cI (Mq u1 u2 u0))])]} [.pf ⟨dP [some .i64] 1 1 (Ef u1 u2 u0).length (o9 (aC .i64) (Ef u1 u2 u0)) (pz (aC .i64) (Ef u1 u2 u0)) [(.int .i64 u0)] [(.d (.int .i64 0))] (bN bn u0 (Ef u1 u2 u0)).isSome [(cI (Mq u1 u2 u0))],jg (fun _=>rfl) (fun _ _=>rfl) (Ef u1 u2 u0) u0 0 rfl rfl rfl⟩]<| .a3 ((0:Int)≤(Mq u1 u2 u0)∧(Mq u1 u2 u0)<((JQ u1).length:Int)) ((abk u1 u2 u0 u3)*8≤140737488355328) ((MU u1 u2 u0).length+[u3].length≤4611686018427387904)<| .rg {an:=[(6, .take 88),(8, .arr [u3].length (ay (aC .i64) [u3])),(9, .arr (Tp u1 u2 u0 u3).length (aao u1 u2 u0 u3)),(12, .rows 0 (aa9 u1 u2 u0 u3))],fr:=[(8,89),(9,90)]} [0, .t 0 (Mq u1 u2 u0) ((JQ u1).length), .pf ⟨[u3].length=1,rfl⟩, .pf ⟨aS 1 1 (pK 1 [(.int .i64 u3)]) (ay (aC .i64) [u3]),(by intro i hi j hj;match i,j,hi,hj with|0,0,_,_=>rfl)⟩, .e ((MU u1 u2 u0).length),1,2, .pf ⟨(Tp u1 u2 u0 u3).length=(MU u1 u2 u0).length+[u3].length,List.length_append⟩, .pf ⟨aS (abk u1 u2 u0 u3) 1 (qW (ay (aC .i64) (MU u1 u2 u0)) (MU u1 u2 u0).length (ay (aC .i64) [u3])) (aao u1 u2 u0 u3),dD _ _ _ _⟩,0, .t 0 (Mq u1 u2 u0) ((JQ u1).length), .e ((Tp u1 u2 u0 u3).length), .pf ⟨QA (JQ u1).length 2 (Wj (ZV u1) (ZH u1 u2 u0) 0 (.row 3 1 (Tp u1 u2 u0 u3).length (aao u1 u2 u0 u3))) (aa9 u1 u2 u0 u3),zQ _ _ _ _ _ _ _ _ rfl (fun j hj=>(match j,hj with|0,_=>rfl|1,_=>rfl))⟩, .pf ⟨∀i0 j0 c0,((some ((Mq u1 u2 u0).toNat,0,CV.own 88 false (MU u1 u2 u0).length)):Option (Nat × Nat × CV))=some (i0,j0,c0)→i0=(Mq u1 u2 u0).toNat∧j0=0,(fun i0 j0 c0 e=>by cases e;exact⟨rfl,rfl⟩)⟩]<| .im (.ll 87 (JQ u1) (YS u1 u2 u0 u3))<| .r<| .en (.next ((YS u1 u2 u0 u3),(Ef u1 u2 u0),(k11 u3))) [] [(87,60)])
  (.rg {an:=[(2, .look (bN bn u0 u2).isSome (Sl u2 u0))]} [.pf ⟨dP [some .i64] 1 1 u2.length (o9 (aC .i64) u2) (pz (aC .i64) u2) [(.int .i64 u0)] [(.d (.int .i64 0))] (bN bn u0 u2).isSome (Sl u2 u0),jg (fun _=>rfl) (fun _ _=>rfl) u2 u0 0 rfl rfl rfl⟩]<| .a3 ((0:Int)≤(wX u2 u0)∧(wX u2 u0)<(u1.length:Int)) (((LY u1 u2 u0).length+[u3].length)*8≤140737488355328) ((LY u1 u2 u0).length+[u3].length≤4611686018427387904)<| .rg {an:=[(6, .take 91),(8, .arr [u3].length (ay (aC .i64) [u3])),(9, .arr (Tw u1 u2 u0 u3).length (Y8 u1 u2 u0 u3)),(12, .rows 0 (abK u1 u2 u0 u3))],fr:=[(8,92),(9,93)]} [0, .t 0 (wX u2 u0) u1.length, .pf ⟨[u3].length=1,rfl⟩, .pf ⟨aS 1 1 (pK 1 [(.int .i64 u3)]) (ay (aC .i64) [u3]),(by intro i hi j hj;match i,j,hi,hj with|0,0,_,_=>rfl)⟩, .e ((LY u1 u2 u0).length),1,2, .pf ⟨(Tw u1 u2 u0 u3).length=(LY u1 u2 u0).length+[u3].length,List.length_append⟩, .pf ⟨aS ((LY u1 u2 u0).length+[u3].length) 1 (qW (ay (aC .i64) (LY u1 u2 u0)) (LY u1 u2 u0).length (ay (aC .i64) [u3])) (Y8 u1 u2 u0 u3),dD _ _ _ _⟩,0, .t 0 (wX u2 u0) u1.length, .e ((Tw u1 u2 u0 u3).length), .pf ⟨QA u1.length 2 (Wj (o7 aT.ev u1) ((wX u2 u0).toNat) 0 (.row 3 1 (Tw u1 u2 u0 u3).length (Y8 u1 u2 u0 u3))) (abK u1 u2 u0 u3),zQ _ _ _ _ _ _ _ _ rfl (fun j hj=>(match j,hj with|0,_=>rfl|1,_=>rfl))⟩, .pf ⟨∀i0 j0 c0,((some ((wX u2 u0).toNat,0,CV.own 91 false (LY u1 u2 u0).length)):Option (Nat × Nat × CV))=some (i0,j0,c0)→i0=(wX u2 u0).toNat∧j0=0,(fun i0 j0 c0 e=>by cases e;exact⟨rfl,rfl⟩)⟩]<| .im (.ll 60 u1 (ZY u1 u2 u0 u3))<| .r<| .e (.next ((ZY u1 u2 u0 u3),u2,(k11 u3))))))
  (.e (.done (.brk (u1,u2)))))
  (fun(u9,u4)=> .r<| .lp (σ:=((List aT) × Int)) (β:=(List aT)) (u9,0) [] [] ⟨[3,5,8,76,77],[57,58,61],fun(u5,u7)=>[(7,(vO 60 false u5.length)),(78,(vI u7))],fun(u5,u7)=>[(60,some (.rows 140 2 u5.length (o7 aT.ev u5) none))]⟩ ⟨[],[],fun u8=>[(7,(vO 60 false u8.length))],fun u8=>[(60,some (.rows 140 2 u8.length (o7 aT.ev u8) none))]⟩
  (fun(u5,u7)=> .r<| .it (.a1 (k44 u7 p)<| .rg {fr:=[(3,106)],fz:=[106]} []<| .a3 ((0:Int)≤u7∧u7<(s_.on_.length:Int)) (k45 u7 s_) (k46 u7 p s_)<| .rg {} [0,1,2]<| .it (.cr 4 (dS [(0,57)] (gW v0 (k47 u7 p))) fun u6=> .rg {an:=[(5, .look (bN bn u6 u4).isSome (Sl u4 u6))]} [0, .pf ⟨dP [some .i64] 1 1 u4.length (o9 (aC .i64) u4) (pz (aC .i64) u4) [(.int .i64 u6)] [(.d (.int .i64 0))] (bN bn u6 u4).isSome (Sl u4 u6),jg (fun _=>rfl) (fun _ _=>rfl) u4 u6 0 rfl rfl rfl⟩]<| .a3 ((0:Int)≤(wX u4 u6)∧(wX u4 u6)<(u5.length:Int)) (((Lr u5 u6 u4).length+[u7].length)*8≤140737488355328) ((Lr u5 u6 u4).length+[u7].length≤4611686018427387904)<| .rg {an:=[(6, .take 107),(8, .arr [u7].length (ay (aC .i64) [u7])),(9, .arr (Sv u5 u6 u4 u7).length (aaA u5 u6 u4 u7)),(12, .rows 0 (abx u5 u6 u4 u7))],fr:=[(8,108),(9,109)]} [0, .t 0 (wX u4 u6) u5.length, .pf ⟨[u7].length=1,rfl⟩, .pf ⟨aS 1 1 (pK 1 [(.int .i64 u7)]) (ay (aC .i64) [u7]),(by intro i hi j hj;match i,j,hi,hj with|0,0,_,_=>rfl)⟩, .e ((Lr u5 u6 u4).length),1,2, .pf ⟨(Sv u5 u6 u4 u7).length=(Lr u5 u6 u4).length+[u7].length,List.length_append⟩, .pf ⟨aS ((Lr u5 u6 u4).length+[u7].length) 1 (qW (ay (aC .i64) (Lr u5 u6 u4)) (Lr u5 u6 u4).length (ay (aC .i64) [u7])) (aaA u5 u6 u4 u7),dD _ _ _ _⟩,0, .t 0 (wX u4 u6) u5.length, .e ((Sv u5 u6 u4 u7).length), .pf ⟨QA u5.length 2 (Wj (o7 aT.ev u5) ((wX u4 u6).toNat) 1 (.row 3 1 (Sv u5 u6 u4 u7).length (aaA u5 u6 u4 u7))) (abx u5 u6 u4 u7),zQ _ _ _ _ _ _ _ _ rfl (fun j hj=>(match j,hj with|0,_=>rfl|1,_=>rfl))⟩, .pf ⟨∀i0 j0 c0,((some ((wX u4 u6).toNat,1,CV.own 107 false (Lr u5 u6 u4).length)):Option (Nat × Nat × CV))=some (i0,j0,c0)→i0=(wX u4 u6).toNat∧j0=1,(fun i0 j0 c0 e=>by cases e;exact⟨rfl,rfl⟩)⟩]<| .im (.ll 60 u5 (ZR u5 u6 u4 u7))<| .r<| .e (.next ((ZR u5 u6 u4 u7),(k11 u7))))
  (.r<| .e (.next (u5,(k11 u7)))))
  (.e (.done (.brk u5))))
  (fun u8=> .r<| .fz [60]<| .im (.us 4 (vD (.sl none 2 u8.length (fun i j=>evD (o7 aT.ev u8 i j)))) (vD (bJ none 2 aT.cell u8)) (Bp.v (Gi.one (j5.d (nA.sl (.inr rfl) (fun i _ j hj=>match j,hj with|0,_=> .refl _|1,_=> .refl _))))))<| .e u8)))
section
variable (p:au) (u1:(List aT)) (u0:Int) (u3:Int) (u2:(List Bool))
abbrev Gu:=(List.replicate p.buses.toNat (false:Bool))
abbrev SA:=(ay ah (Gu p))
abbrev Td:=(at' ((at' u1 u0.toNat).buses) u3.toNat)
abbrev ab5:=((0:Int)≤(Td u1 u0 u3)∧(Td u1 u0 u3)<(u2.length:Int))
abbrev Xi:=(u2.set ((Td u1 u0 u3).toNat) (decide (0<(((at' u1 u0.toNat).sources).length:Int))))
abbrev XZ:=(ay ah (Xi u1 u0 u3 u2))
abbrev ac4:=(jK (ay ah u2) ((Td u1 u0 u3).toNat) 0 [(.bool (decide (0<(((at' u1 u0.toNat).sources).length:Int))))])
abbrev adJ:=((Xi u1 u0 u3 u2),(k11 u3))
end
theorem yP (p:au) (s_:State):dJ Tryz.prog 21 (k20 s_ p) [] (fun r=>(.fU [(sD (bJ none 1 ah r.1)),(sI r.2)])) (fun _=>[]) (iF p s_):=
  dR tT mX Tryz.func21 (
  .rg {fr:=[(0,7),(1,8)],fz:=[7,8]} []<| .cl 2 (bU p s_) fun r_=> .r<| .r<| .it (.r<| .e (([]:List Bool),r_))
  (.a3 ((0:Int)≤p.buses) ((1:Int)*p.buses≤281474976710656) ((p.buses:Int)≤9223372036854775807)<| .rg {an:=[(2, .arr (Gu p).length (SA p))],fr:=[(2,9)]} [0, .e ((p.buses:Int)),1,2, .pf ⟨(Gu p).length=p.buses.toNat,List.length_replicate⟩, .pf ⟨aS p.buses.toNat 1 (fun _ j=>[(.bool false)].getD j .nilp) (SA p),kN _ _ _ _ _ (fun j hj=>(match j,hj with|0,_=>rfl))⟩]<| .cl 2 (iX p s_) fun u1=> .r<| .lp (σ:=((List Bool) × Int)) (β:=(List Bool)) ((Gu p),0) [] [] ⟨[23,24],[],fun(u4,u0)=>[(7,(vO 9 true u4.length)),(25,(vI u0))],fun(u4,u0)=>[(9,some (aV 4 1 ah u4))]⟩ ⟨[],[],fun u5=>[(7,(vO 9 true u5.length))],fun u5=>[(9,some (aV 4 1 ah u5))]⟩
  (fun(u4,u0)=> .r<| .it (.a1 ((0:Int)≤u0∧u0<(u1.length:Int))<| .rg {fr:=[(2,13)]} []<| .rg {fz:=[13]} []<| .lp (σ:=((List Bool) × Int)) (β:=(List Bool)) (u4,0) [] [] ⟨[9,23,24,25,30,31],[],fun(u2,u3)=>[(7,(vO 9 true u2.length)),(32,(vI u3))],fun(u2,u3)=>[(9,some (aV 4 1 ah u2))]⟩ ⟨[23,24,25],[],fun u6=>[(7,(vO 9 true u6.length))],fun u6=>[(9,some (aV 4 1 ah u6))]⟩
  (fun(u2,u3)=> .r<| .it (.a1 ((0:Int)≤u3∧u3<(((at' u1 u0.toNat).buses).length:Int))<| .r<| .a1 (ab5 u1 u0 u3 u2)<| .rg {an:=[(7, .arr 0 (XZ u1 u0 u3 u2))]} [0, .t 0 (Td u1 u0 u3) u2.length, .pf ⟨aS u2.length 1 (ac4 u1 u0 u3 u2) (XZ u1 u0 u3 u2),bO _ _ _ _ _ _ _ _ rfl (fun j hj=>(match j,hj with|0,_=>rfl))⟩]<| .im (.ll 9 u2 (Xi u1 u0 u3 u2))<| .r<| .e (.next (adJ u1 u0 u3 u2)))
  (.e (.done (.brk u2))))
  (fun u6=> .r<| .e (.next (u6,(k11 u0)))))
  (.e (.done (.brk u4))))
  (fun u5=> .rg {fz:=[9]} []<| .e (u5,0))))
section
variable (p:au) (u0:Int) (r_:((List Bool) × Int)) (u1:(List aZ))
abbrev XJ:List DV:=[(.int .i64 ((Mv p u0).e0))]
abbrev acC:=((gB [((decide (0≤((Mv p u0).e0))),true)]=true→(0:Int)≤(Mv p u0).e0∧(Mv p u0).e0<(r_.1.length:Int)))
abbrev Xr:List DV:=[(.int .i64 ((Mv p u0).e1))]
abbrev adh:=((gB [((decide (0≤((Mv p u0).e1))),true)]=true→(0:Int)≤(Mv p u0).e1∧(Mv p u0).e1<(r_.1.length:Int)))
abbrev abT:=(bif (decide (0≤((Mv p u0).e0)))then(at' r_.1 (((Mv p u0).e0).toNat))else false)
abbrev adw:=(bif (decide (0≤((Mv p u0).e1)))then(at' r_.1 (((Mv p u0).e1).toNat))else false)
abbrev JK:=(⟨(abT p u0 r_),(adw p u0 r_)⟩:aZ)
abbrev aaj:=(u1.length+[(JK p u0 r_)].length)
abbrev ab9:=((aaj p u0 r_ u1)*2≤140737488355328)
abbrev abG:=(u1.length+[(JK p u0 r_)].length≤4611686018427387904)
abbrev UL:=(ay aZ.cell [(JK p u0 r_)])
abbrev Tc:=(u1++[(JK p u0 r_)])
abbrev Xv:=(ay aZ.cell (Tc p u0 r_ u1))
abbrev adM:=(pK 2 [(.bool (abT p u0 r_)),(.bool (adw p u0 r_))])
abbrev adN:=(qW (ay aZ.cell u1) u1.length (UL p u0 r_))
abbrev adf:=((Tc p u0 r_ u1),(k11 u0))
end
theorem uJ (p:au) (s_:State):dJ Tryz.prog 9 (k20 s_ p) [] (fun r=>(.fU [(sD (bJ none 2 aZ.cell r.1)),(sI r.2)])) (fun _=>[]) (j6 p s_):=
  dR tT mX Tryz.func9 (
  .rg {fr:=[(0,18),(1,19)],fz:=[19]} []<| .cl 2 (yP p s_) fun r_=> .r<| .r<| .it (.r<| .e (([]:List aZ),r_.2))
  (.r<| .r<| .im (.ad 8 36 50 2 (ay aZ.cell ([]:List aZ)))<| .lp (σ:=((List aZ) × Int)) (β:=(List aZ)) (([]:List aZ),0) [] [(36,23)] ⟨[6,24,25],[],fun(u1,u0)=>[(8,(vO 23 false u1.length)),(26,(vI u0))],fun(u1,u0)=>[(23,some (aV 50 2 aZ.cell u1))]⟩ ⟨[],[],fun u2=>[(8,(vO 23 false u2.length))],fun u2=>[(23,some (aV 50 2 aZ.cell u2))]⟩
  (fun(u1,u0)=> .r<| .it (.a1 ((0:Int)≤u0∧u0<(p.racks.length:Int))<| .rg {fr:=[(2,32)],fz:=[32]} []<| .rg {fr:=[(0,33)]} []<| .r<| .ul 11<| .r<| .t<| .rg {an:=[(1, .vals (XJ p u0))]} [.pf ⟨(0:Int)≤0∧(0:Int)<(2:Nat),(by decide)⟩, .pf ⟨0*1+1≤(Wi p u0).length,Nat.le_of_ble_eq_true rfl⟩, .pf ⟨((Wi p u0).drop (0*1)).take 1=(XJ p u0).map .d,rfl⟩]<| .a1 (acC p u0 r_)<| .rg {} [0, .pf ⟨(0:Int)≤0∧(0:Int)<(2:Nat),(by decide)⟩]<| .r<| .im (.dp [6,8,11,24,25,26,31,32])<| .r<| .t<| .rg {an:=[(1, .vals (Xr p u0))]} [.pf ⟨(0:Int)≤1∧(1:Int)<(2:Nat),(by decide)⟩, .pf ⟨1*1+1≤(Wi p u0).length,Nat.le_of_ble_eq_true rfl⟩, .pf ⟨((Wi p u0).drop (1*1)).take 1=(Xr p u0).map .d,rfl⟩]<| .a1 (adh p u0 r_)<| .rg {} [0, .pf ⟨(0:Int)≤1∧(1:Int)<(2:Nat),(by decide)⟩]<| .r<| .im (.dp [6,8,11,24,25,26,31,32])<| .r<| .f<| .a2 (ab9 p u0 r_ u1) (abG p u0 r_ u1)<| .rg {an:=[(2, .arr [(JK p u0 r_)].length (UL p u0 r_)),(3, .arr (Tc p u0 r_ u1).length (Xv p u0 r_ u1))],fr:=[(2,34),(3,35)]} [.pf ⟨[(JK p u0 r_)].length=1,rfl⟩, .pf ⟨aS 1 2 (adM p u0 r_) (UL p u0 r_),(by intro i hi j hj;match i,j,hi,hj with|0,0,_,_=>rfl|0,1,_,_=>rfl)⟩, .e (u1.length),0,1, .pf ⟨(Tc p u0 r_ u1).length=u1.length+[(JK p u0 r_)].length,List.length_append⟩, .pf ⟨aS (aaj p u0 r_ u1) 2 (adN p u0 r_ u1) (Xv p u0 r_ u1),dD _ _ _ _⟩]<| .r<| .en (.next (adf p u0 r_ u1)) [] [(35,23)])
  (.e (.done (.brk u1))))
  (fun u2=> .rg {fz:=[23]} []<| .e (u2,0))))
theorem jr (x y:ai):Go.Proofs.ltOf eO x y=true↔x.e0<y.e0∨ ¬ y.e0<x.e0∧x.e1<y.e1:=by
 unfold Go.Proofs.ltOf eO;rw [decide_eq_true_iff]
 by_cases h0:x.e0<y.e0<;>by_cases g0:y.e0<x.e0<;>by_cases h1:x.e1<y.e1<;>by_cases g1:y.e1<x.e1<;>simp [h0,g0,h1,g1]
theorem zA:Go.Sort.SWO (Go.Proofs.ltOf eO) where
 irrefl x:=by rw [←Bool.not_eq_true,jr];omega
 trans x y z h1 h2:=by rw [jr]at*;omega
 ntrans x y z h1 h2:=by rw [←Bool.not_eq_true,jr]at*;omega
theorem zN (x y:ai) (h1:(Go.Proofs.ltOf eO) x y=false) (h2:(Go.Proofs.ltOf eO) y x=false):x=y:=by
 rw [←Bool.not_eq_true,jr]at h1 h2
 obtain⟨a,b⟩:=x
 obtain⟨c,d⟩:=y
 have e1:a=c:=by simp only at h1 h2;omega
 have e2:b=d:=by simp only at h1 h2;omega
 rw [e1,e2]
theorem A9 (s:(List ai)) {r:(List ai)} (h:vS s=some r):Fn Tryz.prog 121 [(.one (.own 0 false s.length)),(sD (.fn 122 0 (bT [])))] [(0,some (.arr 41 2 s.length (ay ai.cell s)))] (.fU []) [(0,some (.arr 41 2 r.length (ay ai.cell r)))]:=
 aad UC 2 XE Vr (fun x:ai=>[.int .i64 x.e0, .int .i64 x.e1]) (fun _=>rfl) (fun x v hv=>by simp at hv;rcases hv with rfl|rfl<;>rfl) eO zA zN
  (Ql (fun x:ai=>[.int .i64 x.e0, .int .i64 x.e1]) (fun x=>x.e0) (fun x=>x.e1) (fun _=>rfl)) (enters_of Tryz.func122 (by kernel_rfl) rfl)
  (fun F w x j hj v=>match j,hj with|0,_=>Iff.rfl|1,_=>Iff.rfl) 121 rfl ⟨_,Tryz.func121,rfl,rfl⟩ s (by cases s with|nil=>(cases h;simp)|cons x xs=>exact h)
section
variable (u6:(List ai)) (u2:(List aT)) (u0:Int) (u1:Int) (u3:Int) (u4:(List ai))
abbrev RV:List (Nat × Option Ob):=[(138,some (aV 41 2 ai.cell u6))]
abbrev YV:=(((at' u2 u0.toNat).sources).drop ((k11 u1).toNat))
abbrev MG:=(at' ((at' u2 u0.toNat).sources) u1.toNat)
abbrev WK:=(at' (YV u2 u0 u1) u3.toNat)
abbrev QS:=(⟨(MG u2 u0 u1),(WK u2 u0 u1 u3)⟩:ai)
abbrev aa2:=(u4.length+[(QS u2 u0 u1 u3)].length)
abbrev aag:=(ay ai.cell [(QS u2 u0 u1 u3)])
abbrev XW:=(u4++[(QS u2 u0 u1 u3)])
abbrev adF:=(ay ai.cell (XW u2 u0 u1 u3 u4))
end
theorem Du (p:au) (s_:State):dJ Tryz.prog 107 (k20 s_ p) [] (fun r=>(.fU [(sD (bJ none 2 ai.cell r.1)),(sI r.2)])) (fun _=>[]) (yT p s_):=
  dR tT mX Tryz.func107 (
  .rg {fr:=[(0,134),(1,135)],fz:=[134,135]} []<| .cl 2 (bU p s_) fun r_=> .r<| .r<| .it (.r<| .e (([]:List ai),r_))
  (.r<| .cl 2 (iX p s_) fun u2=> .r<| .im (.ad 7 268 41 2 (ay ai.cell ([]:List ai)))<| .lp (σ:=((List ai) × Int)) (β:=(List ai)) (([]:List ai),0) [] [(268,138)] ⟨[2,22,23],[],fun(u6,u0)=>[(7,(vO 138 false u6.length)),(24,(vI u0))],fun(u6,u0)=>(RV u6)⟩ ⟨[],[],fun u5=>[(7,(vO 138 false u5.length))],fun u5=>(RV u5)⟩
  (fun(u6,u0)=> .r<| .it (.a1 ((0:Int)≤u0∧u0<(u2.length:Int))<| .rg {fr:=[(2,235)],fz:=[235]} []<| .r<| .lp (σ:=((List ai) × Int)) (β:=(List ai)) (u6,0) [] [] ⟨[2,9,22,23,24,29,30],[],fun(u7,u1)=>[(7,(vO 138 false u7.length)),(31,(vI u1))],fun(u7,u1)=>(RV u7)⟩ ⟨[2,22,23,24],[],fun u8=>[(7,(vO 138 false u8.length))],fun u8=>(RV u8)⟩
  (fun(u7,u1)=> .r<| .it (.a1 ((0:Int)≤u1∧u1<(((at' u2 u0.toNat).sources).length:Int))<| .r<| .a1 ((0:Int)≤(k11 u1)∧(k11 u1)≤(((at' u2 u0.toNat).sources).length:Int))<| .r<| .im (.us 40 (vD (.sl none 1 (((at' u2 u0.toNat).sources).length - ((k11 u1).toNat)) (fun iq jq=>ay (aC .i64) ((at' u2 u0.toNat).sources) (iq+((k11 u1).toNat)) jq))) (vD (bJ none 1 (aC .i64) (YV u2 u0 u1))) (Bp.v (Gi.one (j5.d (nA.slN (by first|rw [List.length_append,List.length_drop]|simp only [List.length_set,List.length_drop,fC]) (.inr rfl) (Y7 _ _ _ _))))))<| .lp (σ:=((List ai) × Int)) (β:=(List ai)) (u7,0) [] [] ⟨[2,9,11,22,23,24,29,30,31,40,41],[],fun(u4,u3)=>[(7,(vO 138 false u4.length)),(42,(vI u3))],fun(u4,u3)=>(RV u4)⟩ ⟨[2,9,22,23,24,29,30,31],[],fun u9=>[(7,(vO 138 false u9.length))],fun u9=>(RV u9)⟩
  (fun(u4,u3)=> .r<| .it (.a1 ((0:Int)≤u3∧u3<((YV u2 u0 u1).length:Int))<| .r<| .a3 ((0:Int)≤(MG u2 u0 u1)∧(MG u2 u0 u1)<(p.sources.length:Int)) ((gB [((decide (((at' p.sources ((MG u2 u0 u1).toNat)).sync)=0)),false)]=true→(0:Int)≤(MG u2 u0 u1)∧(MG u2 u0 u1)<(p.sources.length:Int))) ((gB [((decide (((at' p.sources ((MG u2 u0 u1).toNat)).sync)=0)),false)]=true→(0:Int)≤(WK u2 u0 u1 u3)∧(WK u2 u0 u1 u3)<(p.sources.length:Int)))<| .rg {} [0,1,2]<| .it (.a2 ((aa2 u2 u0 u1 u3 u4)*16≤140737488355328) (u4.length+[(QS u2 u0 u1 u3)].length≤4611686018427387904)<| .rg {an:=[(4, .arr [(QS u2 u0 u1 u3)].length (aag u2 u0 u1 u3)),(5, .arr (XW u2 u0 u1 u3 u4).length (adF u2 u0 u1 u3 u4))],fr:=[(4,266),(5,267)]} [.pf ⟨[(QS u2 u0 u1 u3)].length=1,rfl⟩, .pf ⟨aS 1 2 (pK 2 [(.int .i64 (MG u2 u0 u1)),(.int .i64 (WK u2 u0 u1 u3))]) (aag u2 u0 u1 u3),(by intro i hi j hj;match i,j,hi,hj with|0,0,_,_=>rfl|0,1,_,_=>rfl)⟩, .e (u4.length),0,1, .pf ⟨(XW u2 u0 u1 u3 u4).length=u4.length+[(QS u2 u0 u1 u3)].length,List.length_append⟩, .pf ⟨aS (aa2 u2 u0 u1 u3 u4) 2 (qW (ay ai.cell u4) u4.length (aag u2 u0 u1 u3)) (adF u2 u0 u1 u3 u4),dD _ _ _ _⟩]<| .r<| .en (.next ((XW u2 u0 u1 u3 u4),(k11 u3))) [] [(267,138)])
  (.r<| .e (.next (u4,(k11 u3)))))
  (.e (.done (.brk u4))))
  (fun u9=> .r<| .e (.next (u9,(k11 u1)))))
  (.e (.done (.brk u7))))
  (fun u8=> .r<| .e (.next (u8,(k11 u0)))))
  (.e (.done (.brk u6))))
  (fun u5=> .cl 1 (dS [(0,138)] ⟨fun h=>A9 u5 h⟩) fun v0=> .r<| .a1 (u5.length=v0.length)<| .so 7 138 false u5.length v0.length 0<| .so 77 138 false u5.length v0.length 0<| .fz [138]<| .r<| .e (v0,0))))
theorem Dk (p:au) (s_:State):dJ Tryz.prog 21 (k20 s_ p) [] (fun r=>(.fU [(.one (.own 0 false r.1.length)),(sI r.2)])) (fun r=>[(0,some (aV 4 1 ah r.1))]) (iF p s_):=
  dR tT mX Tryz.func21 (
  .rg {fr:=[(0,7),(1,8)],fz:=[7,8]} []<| .cl 2 (bU p s_) fun r_=> .r<| .r<| .it (.r<| .im (.ad 4 9 4 1 (ay ah ([]:List Bool)))<| .en (([]:List Bool),r_) [] [(9,0)])
  (.a3 ((0:Int)≤p.buses) ((1:Int)*p.buses≤281474976710656) ((p.buses:Int)≤9223372036854775807)<| .rg {an:=[(2, .arr (Gu p).length (SA p))],fr:=[(2,10)]} [0, .e ((p.buses:Int)),1,2, .pf ⟨(Gu p).length=p.buses.toNat,List.length_replicate⟩, .pf ⟨aS p.buses.toNat 1 (fun _ j=>[(.bool false)].getD j .nilp) (SA p),kN _ _ _ _ _ (fun j hj=>(match j,hj with|0,_=>rfl))⟩]<| .cl 2 (iX p s_) fun u1=> .r<| .lp (σ:=((List Bool) × Int)) (β:=(List Bool)) ((Gu p),0) [] [] ⟨[23,24],[],fun(u4,u0)=>[(7,(vO 10 true u4.length)),(25,(vI u0))],fun(u4,u0)=>[(10,some (aV 4 1 ah u4))]⟩ ⟨[],[],fun u5=>[(7,(vO 10 true u5.length))],fun u5=>[(10,some (aV 4 1 ah u5))]⟩
  (fun(u4,u0)=> .r<| .it (.a1 ((0:Int)≤u0∧u0<(u1.length:Int))<| .rg {fr:=[(2,14)]} []<| .rg {fz:=[14]} []<| .lp (σ:=((List Bool) × Int)) (β:=(List Bool)) (u4,0) [] [] ⟨[9,23,24,25,30,31],[],fun(u2,u3)=>[(7,(vO 10 true u2.length)),(32,(vI u3))],fun(u2,u3)=>[(10,some (aV 4 1 ah u2))]⟩ ⟨[23,24,25],[],fun u6=>[(7,(vO 10 true u6.length))],fun u6=>[(10,some (aV 4 1 ah u6))]⟩
  (fun(u2,u3)=> .r<| .it (.a1 ((0:Int)≤u3∧u3<(((at' u1 u0.toNat).buses).length:Int))<| .r<| .a1 (ab5 u1 u0 u3 u2)<| .rg {an:=[(7, .arr 0 (XZ u1 u0 u3 u2))]} [0, .t 0 (Td u1 u0 u3) u2.length, .pf ⟨aS u2.length 1 (ac4 u1 u0 u3 u2) (XZ u1 u0 u3 u2),bO _ _ _ _ _ _ _ _ rfl (fun j hj=>(match j,hj with|0,_=>rfl))⟩]<| .im (.ll 10 u2 (Xi u1 u0 u3 u2))<| .r<| .e (.next (adJ u1 u0 u3 u2)))
  (.e (.done (.brk u2))))
  (fun u6=> .r<| .e (.next (u6,(k11 u0)))))
  (.e (.done (.brk u4))))
  (fun u5=> .r<| .en (u5,0) [] [(10,0)])))
theorem Ez (p:au) (s_:State):dJ Tryz.prog 9 (k20 s_ p) [] (fun r=>(.fU [(.one (.own 0 false r.1.length)),(sI r.2)])) (fun r=>[(0,some (aV 50 2 aZ.cell r.1))]) (j6 p s_):=
  dR tT mX Tryz.func9 (
  .rg {fr:=[(0,19),(1,20)],fz:=[20]} []<| .cl 2 (dS [(0,21)] (Dk p s_)) fun r_=> .rg {fz:=[21]} []<| .r<| .it (.r<| .im (.ad 4 22 50 2 (ay aZ.cell ([]:List aZ)))<| .en (([]:List aZ),r_.2) [] [(22,0)])
  (.r<| .r<| .im (.ad 8 39 50 2 (ay aZ.cell ([]:List aZ)))<| .lp (σ:=((List aZ) × Int)) (β:=(List aZ)) (([]:List aZ),0) [] [(39,26)] ⟨[6,24,25],[],fun(u1,u0)=>[(8,(vO 26 false u1.length)),(26,(vI u0))],fun(u1,u0)=>[(26,some (aV 50 2 aZ.cell u1))]⟩ ⟨[],[],fun u2=>[(8,(vO 26 false u2.length))],fun u2=>[(26,some (aV 50 2 aZ.cell u2))]⟩
  (fun(u1,u0)=> .r<| .it (.a1 ((0:Int)≤u0∧u0<(p.racks.length:Int))<| .rg {fr:=[(2,35)],fz:=[35]} []<| .rg {fr:=[(0,36)]} []<| .r<| .ul 11<| .r<| .t<| .rg {an:=[(1, .vals (XJ p u0))]} [.pf ⟨(0:Int)≤0∧(0:Int)<(2:Nat),(by decide)⟩, .pf ⟨0*1+1≤(Wi p u0).length,Nat.le_of_ble_eq_true rfl⟩, .pf ⟨((Wi p u0).drop (0*1)).take 1=(XJ p u0).map .d,rfl⟩]<| .a1 (acC p u0 r_)<| .rg {} [0, .pf ⟨(0:Int)≤0∧(0:Int)<(2:Nat),(by decide)⟩]<| .r<| .im (.dp [6,8,11,24,25,26,31,32])<| .r<| .t<| .rg {an:=[(1, .vals (Xr p u0))]} [.pf ⟨(0:Int)≤1∧(1:Int)<(2:Nat),(by decide)⟩, .pf ⟨1*1+1≤(Wi p u0).length,Nat.le_of_ble_eq_true rfl⟩, .pf ⟨((Wi p u0).drop (1*1)).take 1=(Xr p u0).map .d,rfl⟩]<| .a1 (adh p u0 r_)<| .rg {} [0, .pf ⟨(0:Int)≤1∧(1:Int)<(2:Nat),(by decide)⟩]<| .r<| .im (.dp [6,8,11,24,25,26,31,32])<| .r<| .f<| .a2 (ab9 p u0 r_ u1) (abG p u0 r_ u1)<| .rg {an:=[(2, .arr [(JK p u0 r_)].length (UL p u0 r_)),(3, .arr (Tc p u0 r_ u1).length (Xv p u0 r_ u1))],fr:=[(2,37),(3,38)]} [.pf ⟨[(JK p u0 r_)].length=1,rfl⟩, .pf ⟨aS 1 2 (adM p u0 r_) (UL p u0 r_),(by intro i hi j hj;match i,j,hi,hj with|0,0,_,_=>rfl|0,1,_,_=>rfl)⟩, .e (u1.length),0,1, .pf ⟨(Tc p u0 r_ u1).length=u1.length+[(JK p u0 r_)].length,List.length_append⟩, .pf ⟨aS (aaj p u0 r_ u1) 2 (adN p u0 r_ u1) (Xv p u0 r_ u1),dD _ _ _ _⟩]<| .r<| .en (.next (adf p u0 r_ u1)) [] [(38,26)])
  (.e (.done (.brk u1))))
  (fun u2=> .r<| .en (u2,0) [] [(26,0)])))
theorem CG (r_:Int) (x1:(List aZ)):dJ Tryz.prog 108 [(sI r_),(sD (zB [(bJ none 2 aZ.cell x1)] 0))] [] (fun r=>(vB r)) (fun _=>[]) (yU r_ x1):=
  dR tT mX Tryz.func108 (
  .r<| .a2 ((0:Int)≤r_∧r_<(x1.length:Int)) ((gB [((!((at' x1 r_.toNat).e0)),true)]=true→(0:Int)≤r_∧r_<(x1.length:Int)))<| .rg {} [0, .pf ⟨(0:Int)≤0∧(0:Int)<(2:Nat),(by decide)⟩,1, .pf ⟨(0:Int)≤1∧(1:Int)<(2:Nat),(by decide)⟩]<| .e (bif (!((at' x1 r_.toNat).e0))then(!((at' x1 r_.toNat).e1))else false))
section
variable (s_:(List Int)) (f_:(List aZ))
abbrev ads:List SV:=[(sD (O8 s_)),(sD (.fn 108 1 (bT [(zB [(bJ none 2 aZ.cell f_)] 0)])))]
end
theorem rF (s_:(List Int)) (f_:(List aZ)):dJ Tryz.prog 119 (ads s_ f_) [] (fun r=>(vI r)) (fun _=>[]) (mQ s_ f_):=
  dR tT mX Tryz.func119 (
  .r<| .r<| .lp (σ:=Int) (β:=Unit) (0) [] [] ⟨[0,1,7],[],fun t8=>[(8,(vI t8))],fun t8=>[]⟩ ⟨[],[],fun _=>[],fun _=>[]⟩
  (fun t8=> .r<| .it (.r<| .cl 5 (CG (at' s_ t8.toNat) f_) fun r_=> .a1 (Rx s_ t8)<| .rg {} [0,1]<| .it (.r<| .e (.done (.ret t8)))
  (.r<| .e (.next (k11 t8))))
  (.e (.done (.brk ()))))
  (fun _=> .r<| .e (-1)))
theorem pX (s_:(List Int)) (f_:(List aZ)):dJ Tryz.prog 101 (ads s_ f_) [] (fun r=>(vB r)) (fun _=>[]) (kX s_ f_):=
  dR tT mX Tryz.func101 (
  .r<| .cl 2 (rF s_ f_) fun r_=> .r<| .e (decide (0≤r_)))
theorem Gn (p:au) (s_:State) (t:Task) (b:Int):dJ Tryz.prog 110 [(.agg (k1 p)),(.agg (k21 s_)),(.agg (OG t)),(sI b)] [] (fun r=>(vB r)) (fun _=>[]) (EK p s_ t b):=
  dR tT mX Tryz.func110 (
  .rg {fr:=[(0,11),(1,12),(2,13)],fz:=[12,13]} []<| .a1 ((0:Int)≤b∧b<(s_.earthed.length:Int))<| .r<| .it (.r<| .e false)
  (.r<| .lp (σ:=Int) (β:=Unit) (0) [] [] ⟨[3,4,5,6,20,21],[11],fun u1=>[(22,(vI u1))],fun u1=>[]⟩ ⟨[3,4,5,6],[11],fun _=>[],fun _=>[]⟩
  (fun u1=> .r<| .it (.a1 (k44 u1 p)<| .rg {fr:=[(3,17)],fz:=[17]} []<| .a1 ((gB [((decide ((k47 u1 p)=b)),true)]=true→(0:Int)≤u1∧u1<(s_.on_.length:Int)))<| .r<| .it (.r<| .e (.done (.ret false)))
  (.r<| .e (.next (k11 u1))))
  (.e (.done (.brk ()))))
  (fun _=> .r<| .lp (σ:=Int) (β:=Unit) (0) [] [] ⟨[3,5,6,40,41],[],fun u0=>[(42,(vI u0))],fun u0=>[]⟩ ⟨[],[],fun _=>[],fun _=>[]⟩
  (fun u0=> .r<| .it (.a1 (k28 p u0)<| .rg {fr:=[(3,21)],fz:=[21]} []<| .cg 20 [((bif (!decide ((Rs p u0)=b))then(!decide ((TY p u0)=b))else false),false)] (gX t.crew (IntKind.wrap .i64 ((IntKind.wrap .i64 ((Rs p u0)+(TY p u0))) - b))) fun r_=> .r<| .it (.r<| .e (.next (k11 u0)))
  (.a2 ((gB [((decide (((at' p.links u0.toNat).kind)=1)),false)]=true→(0:Int)≤u0∧u0<(s_.closed.length:Int))) ((gB [((bif (decide (((at' p.links u0.toNat).kind)=1))then true else(at' s_.closed u0.toNat)),false)]=true→(0:Int)≤u0∧u0<(s_.locked.length:Int)))<| .rg {} [0,1]<| .it (.r<| .e (.done (.ret false)))
  (.r<| .e (.next (k11 u0)))))
  (.e (.done (.brk ()))))
  (fun _=> .r<| .e true))))
section
variable (x3:(List Int)) (u9:(List Int)) (v0:(List aJ)) (v1:(List aJ)) (x2:(List Bool)) (u3:(List Bool)) (u4:(List Bool)) (u5:(List Bool)) (u6:(List Bool)) (u7:(List Bool)) (u8:(List Bool))
abbrev aa3:DV:=(zB [(O8 x3),(O8 u9),(bJ none 2 aJ.cell v0),(bJ none 2 aJ.cell v1)] 0)
abbrev Gh:=(⟨x2,u3,u4,u5,u6,u7,u8⟩:State)
end
theorem Dh (b:Int) (x1:Int) (u0:(List Source)) (u1:(List Link)) (u2:(List aU)) (x2:(List Bool)) (u3:(List Bool)) (u4:(List Bool)) (u5:(List Bool)) (u6:(List Bool)) (u7:(List Bool)) (u8:(List Bool)) (x3:(List Int)) (u9:(List Int)) (v0:(List aJ)) (v1:(List aJ)):dJ Tryz.prog 109 [(sI b),(sD (k4 u0 x1 u1 u2)),(sD (Ny x2 u3 u4 u5 u6 u7 u8)),(sD (aa3 x3 u9 v0 v1))] [] (fun r=>(vB r)) (fun _=>[]) (zb b x1 u0 u1 u2 x2 u3 u4 u5 u6 u7 u8 x3 u9 v0 v1):=
  dR tT mX Tryz.func109 (
  .r<| .cl 4 (Gn (⟨x1,u0,u1,u2⟩:au) (Gh x2 u3 u4 u5 u6 u7 u8) (⟨x3,u9,v0,v1⟩:Task) b) fun r_=> .r<| .e (!r_))
section
variable (s_:(List Int)) (f_:Int) (u0:(List Source)) (u1:(List Link)) (u2:(List aU)) (u3:(List Bool)) (u4:(List Bool)) (u5:(List Bool)) (u6:(List Bool)) (u7:(List Bool)) (u8:(List Bool)) (u9:(List Bool)) (v0:(List Int)) (v1:(List Int)) (v2:(List aJ)) (v3:(List aJ))
abbrev abz:List SV:=[(sD (O8 s_)),(sD (.fn 109 3 (bT [(k4 u0 f_ u1 u2),(Ny u3 u4 u5 u6 u7 u8 u9),(aa3 v0 v1 v2 v3)])))]
end
theorem r9 (s_:(List Int)) (f_:Int) (u0:(List Source)) (u1:(List Link)) (u2:(List aU)) (u3:(List Bool)) (u4:(List Bool)) (u5:(List Bool)) (u6:(List Bool)) (u7:(List Bool)) (u8:(List Bool)) (u9:(List Bool)) (v0:(List Int)) (v1:(List Int)) (v2:(List aJ)) (v3:(List aJ)):dJ Tryz.prog 119 (abz s_ f_ u0 u1 u2 u3 u4 u5 u6 u7 u8 u9 v0 v1 v2 v3) [] (fun r=>(vI r)) (fun _=>[]) (mJ s_ f_ u0 u1 u2 u3 u4 u5 u6 u7 u8 u9 v0 v1 v2 v3):=
  dR tT mX Tryz.func119 (
  .r<| .r<| .lp (σ:=Int) (β:=Unit) (0) [] [] ⟨[0,1,7],[],fun t8=>[(8,(vI t8))],fun t8=>[]⟩ ⟨[],[],fun _=>[],fun _=>[]⟩
  (fun t8=> .r<| .it (.r<| .cl 5 (Dh (at' s_ t8.toNat) f_ u0 u1 u2 u3 u4 u5 u6 u7 u8 u9 v0 v1 v2 v3) fun r_=> .a1 (Rx s_ t8)<| .rg {} [0,1]<| .it (.r<| .e (.done (.ret t8)))
  (.r<| .e (.next (k11 t8))))
  (.e (.done (.brk ()))))
  (fun _=> .r<| .e (-1)))
theorem qp (s_:(List Int)) (f_:Int) (u0:(List Source)) (u1:(List Link)) (u2:(List aU)) (u3:(List Bool)) (u4:(List Bool)) (u5:(List Bool)) (u6:(List Bool)) (u7:(List Bool)) (u8:(List Bool)) (u9:(List Bool)) (v0:(List Int)) (v1:(List Int)) (v2:(List aJ)) (v3:(List aJ)):dJ Tryz.prog 101 (abz s_ f_ u0 u1 u2 u3 u4 u5 u6 u7 u8 u9 v0 v1 v2 v3) [] (fun r=>(vB r)) (fun _=>[]) (lm s_ f_ u0 u1 u2 u3 u4 u5 u6 u7 u8 u9 v0 v1 v2 v3):=
  dR tT mX Tryz.func101 (
  .r<| .cl 2 (r9 s_ f_ u0 u1 u2 u3 u4 u5 u6 u7 u8 u9 v0 v1 v2 v3) fun r_=> .r<| .e (decide (0≤r_)))
section
variable (p:au) (s_:State) (t:Task)
abbrev acV:List SV:=[(.agg (k1 p)),(.agg (k21 s_)),(.agg (OG t))]
end
theorem xX (p:au) (s_:State) (t:Task):dJ Tryz.prog 80 (acV p s_ t) [] (fun r=>(vI r)) (fun _=>[]) (wO p s_ t):=
  dR tT mX Tryz.func80 (
  .rg {fr:=[(0,5),(1,6),(2,7)],fz:=[5,6,7]} []<| .cl 2 (yP p s_) fun r_=> .r<| .r<| .lp (σ:=Int) (β:=Unit) (0) [] [] ⟨[3,4,5,21,22],[],fun u0=>[(23,(vI u0))],fun u0=>[]⟩ ⟨[3,4,5],[],fun _=>[],fun _=>[]⟩
  (fun u0=> .r<| .it (.a1 ((0:Int)≤u0∧u0<(r_.1.length:Int))<| .r<| .a1 ((gB [((at' r_.1 u0.toNat),true)]=true→(0:Int)≤u0∧u0<(s_.earthed.length:Int)))<| .r<| .it (.r<| .e (.done (.ret 40)))
  (.r<| .e (.next (k11 u0))))
  (.e (.done (.brk ()))))
  (fun _=> .cl 2 (Du p s_) fun u2=> .r<| .r<| .it (.r<| .e 41)
  (.cl 2 (dS [(0,8)] (Ez p s_)) fun u1=> .rg {fr:=[(6,9)],fz:=[8]} []<| .fz [9]<| .cl 3 (pX t.fed u1.1) fun u3=> .r<| .it (.r<| .e 42)
  (.cl 3 (qp t.crew p.buses p.sources p.links p.racks s_.closed s_.locked s_.badLink s_.on_ s_.badSource s_.earthed s_.badBus t.fed t.crew t.allowed t.goal) fun u4=> .r<| .it (.r<| .e 45)
  (.r<| .e 0)))))
theorem Fv (p:au) (s_:State) (t:Task):dJ Tryz.prog 50 (acV p s_ t) [] (fun r=>(vI r)) (fun _=>[]) (Ci p s_ t):=
  dR tT mX Tryz.func50 (
  .rg {fr:=[(0,3),(1,4),(2,5)],fz:=[3,4,5]} []<| .cl 2 (bU p s_) fun r_=> .r<| .r<| .it (.r<| .e r_)
  (.cl 2 (DZ p t) fun u1=> .r<| .it (.r<| .e 1)
  (.cl 3 (xX p s_ t) fun u0=> .r<| .e u0)))
abbrev wV:List DV:=[(.int .i64 1),(.int .i64 2),(.int .i64 3),(.int .i64 4),(.int .i64 5),(.int .i64 6),(.int .i64 7),(.int .i64 8)]
abbrev wH:List CV:=[(.d (.fn 145 0 (bT []))),(cB false),(.d (.fn 145 0 (bT []))),(cB true),(.d (.fn 147 0 (bT []))),(cB true),(.d (.fn 147 0 (bT []))),(cB false),(.d (.fn 146 0 (bT []))),(cB true),(.d (.fn 146 0 (bT []))),(cB false),(.d (.fn 148 0 (bT []))),(cB true),(.d (.fn 148 0 (bT []))),(cB false)]
abbrev Oh:List CV:=[(.d (.fn 145 0 (bT []))),(cB false)]
abbrev CB:List DV:=[(.int .i64 1),(.int .i64 2)]
abbrev aaI:List CV:=[(.d (.fn 145 0 (bT []))),(cB false),(.d (.fn 145 0 (bT []))),(cB true)]
abbrev Dq:List DV:=[(.int .i64 1),(.int .i64 2),(.int .i64 3)]
abbrev aaL:List CV:=[(.d (.fn 145 0 (bT []))),(cB false),(.d (.fn 145 0 (bT []))),(cB true),(.d (.fn 147 0 (bT []))),(cB true)]
abbrev aaJ:List DV:=[(.int .i64 1),(.int .i64 2),(.int .i64 3),(.int .i64 4)]
abbrev Y5:List CV:=[(.d (.fn 145 0 (bT []))),(cB false),(.d (.fn 145 0 (bT []))),(cB true),(.d (.fn 147 0 (bT []))),(cB true),(.d (.fn 147 0 (bT []))),(cB false)]
abbrev aav:List DV:=[(.int .i64 1),(.int .i64 2),(.int .i64 3),(.int .i64 4),(.int .i64 5)]
abbrev Zo:List CV:=[(.d (.fn 145 0 (bT []))),(cB false),(.d (.fn 145 0 (bT []))),(cB true),(.d (.fn 147 0 (bT []))),(cB true),(.d (.fn 147 0 (bT []))),(cB false),(.d (.fn 146 0 (bT []))),(cB true)]
abbrev Y9:List DV:=[(.int .i64 1),(.int .i64 2),(.int .i64 3),(.int .i64 4),(.int .i64 5),(.int .i64 6)]
abbrev ZM:List CV:=[(.d (.fn 145 0 (bT []))),(cB false),(.d (.fn 145 0 (bT []))),(cB true),(.d (.fn 147 0 (bT []))),(cB true),(.d (.fn 147 0 (bT []))),(cB false),(.d (.fn 146 0 (bT []))),(cB true),(.d (.fn 146 0 (bT []))),(cB false)]
abbrev YX:List DV:=[(.int .i64 1),(.int .i64 2),(.int .i64 3),(.int .i64 4),(.int .i64 5),(.int .i64 6),(.int .i64 7)]
abbrev aaB:List CV:=[(.d (.fn 145 0 (bT []))),(cB false),(.d (.fn 145 0 (bT []))),(cB true),(.d (.fn 147 0 (bT []))),(cB true),(.d (.fn 147 0 (bT []))),(cB false),(.d (.fn 146 0 (bT []))),(cB true),(.d (.fn 146 0 (bT []))),(cB false),(.d (.fn 148 0 (bT []))),(cB true)]
abbrev Ug:List CV:=[(.d (.fn 145 0 (bT []))),(cB true)]
abbrev UE:List CV:=[(.d (.fn 147 0 (bT []))),(cB true)]
abbrev Vs:List CV:=[(.d (.fn 147 0 (bT []))),(cB false)]
abbrev Ud:List CV:=[(.d (.fn 146 0 (bT []))),(cB true)]
abbrev Uk:List CV:=[(.d (.fn 146 0 (bT []))),(cB false)]
abbrev V3:List CV:=[(.d (.fn 148 0 (bT []))),(cB true)]
abbrev UA:List CV:=[(.d (.fn 148 0 (bT []))),(cB false)]
theorem rA:dJ Tryz.prog 133 [] [] (fun _=>(.v (.one (.mp 0)))) (fun _=>[(0,some (.map ⟨78,227,false,true,1,2,8,(jB wV),(qc 2 wH),[]⟩))]) (qf):=
  dR tT mX Tryz.func133 (
  .r<| .r<| .r<| .r<| .r<| .rg {an:=[(0, .map 0 (jB []) (qc 2 []) []),(3, .map 1 (jB [(.int .i64 1)]) (qc 2 Oh) []),(6, .map 2 (jB CB) (qc 2 aaI) []),(9, .map 3 (jB Dq) (qc 2 aaL) []),(12, .map 4 (jB aaJ) (qc 2 Y5) []),(15, .map 5 (jB aav) (qc 2 Zo) []),(18, .map 6 (jB Y9) (qc 2 ZM) []),(21, .map 7 (jB YX) (qc 2 aaB) []),(24, .map 8 (jB wV) (qc 2 wH) [])],fr:=[(0,1)]} [.pf ⟨ji [some .i64] 1 2 0 (jB []) (qc 2 []) [(.int .i64 1)] Oh [] 1 (jB [(.int .i64 1)]) (qc 2 Oh),⟨(fun i hi=>absurd hi (Nat.not_lt_zero i)),(by intro i hi j hj;match i,j,hi,hj with|0,0,_,_=>exact aD.1 (show bM (CV.aY (.d (.fn 145 0 (bT [])))) []=true from by kernel_rfl)|0,1,_,_=>exact aD.1 (show bM (CV.aY (cB false)) []=true from by kernel_rfl)),0,(fun i hi=>absurd hi (Nat.not_lt_zero i)), .inr ⟨rfl,rfl⟩,rfl,rfl,(fun i hi=>absurd hi (Nat.not_lt_zero i))⟩⟩, .pf ⟨ji [some .i64] 1 2 1 (jB [(.int .i64 1)]) (qc 2 Oh) [(.int .i64 2)] Ug [] 2 (jB CB) (qc 2 aaI),⟨(by intro i hi;match i,hi with|0,_=>rfl),(by intro i hi j hj;match i,j,hi,hj with|0,0,_,_=>exact aD.1 (show bM (CV.aY (.d (.fn 145 0 (bT [])))) []=true from by kernel_rfl)|0,1,_,_=>exact aD.1 (show bM (CV.aY (cB false)) []=true from by kernel_rfl)|1,0,_,_=>exact aD.1 (show bM (CV.aY (.d (.fn 145 0 (bT [])))) []=true from by kernel_rfl)|1,1,_,_=>exact aD.1 (show bM (CV.aY (cB true)) []=true from by kernel_rfl)),1,(by intro i hi;match i,hi with|0,_=>rfl), .inr ⟨rfl,rfl⟩,rfl,rfl,(by intro i hi;match i,hi with|0,_=>exact fun _=> ⟨rfl,rfl⟩)⟩⟩, .pf ⟨ji [some .i64] 1 2 2 (jB CB) (qc 2 aaI) [(.int .i64 3)] UE [] 3 (jB Dq) (qc 2 aaL),⟨(by intro i hi;match i,hi with|0,_=>rfl|1,_=>rfl),(by intro i hi j hj;match i,j,hi,hj with|0,0,_,_=>exact aD.1 (show bM (CV.aY (.d (.fn 145 0 (bT [])))) []=true from by kernel_rfl)|0,1,_,_=>exact aD.1 (show bM (CV.aY (cB false)) []=true from by kernel_rfl)|1,0,_,_=>exact aD.1 (show bM (CV.aY (.d (.fn 145 0 (bT [])))) []=true from by kernel_rfl)|1,1,_,_=>exact aD.1 (show bM (CV.aY (cB true)) []=true from by kernel_rfl)|2,0,_,_=>exact aD.1 (show bM (CV.aY (.d (.fn 147 0 (bT [])))) []=true from by kernel_rfl)|2,1,_,_=>exact aD.1 (show bM (CV.aY (cB true)) []=true from by kernel_rfl)),2,(by intro i hi;match i,hi with|0,_=>rfl|1,_=>rfl), .inr ⟨rfl,rfl⟩,rfl,rfl,(by intro i hi;match i,hi with|0,_=>exact fun _=> ⟨rfl,rfl⟩|1,_=>exact fun _=> ⟨rfl,rfl⟩)⟩⟩, .pf ⟨ji [some .i64] 1 2 3 (jB Dq) (qc 2 aaL) [(.int .i64 4)] Vs [] 4 (jB aaJ) (qc 2 Y5),⟨(by intro i hi;match i,hi with|0,_=>rfl|1,_=>rfl|2,_=>rfl),(by intro i hi j hj;match i,j,hi,hj with|0,0,_,_=>exact aD.1 (show bM (CV.aY (.d (.fn 145 0 (bT [])))) []=true from by kernel_rfl)|0,1,_,_=>exact aD.1 (show bM (CV.aY (cB false)) []=true from by kernel_rfl)|1,0,_,_=>exact aD.1 (show bM (CV.aY (.d (.fn 145 0 (bT [])))) []=true from by kernel_rfl)|1,1,_,_=>exact aD.1 (show bM (CV.aY (cB true)) []=true from by kernel_rfl)|2,0,_,_=>exact aD.1 (show bM (CV.aY (.d (.fn 147 0 (bT [])))) []=true from by kernel_rfl)|2,1,_,_=>exact aD.1 (show bM (CV.aY (cB true)) []=true from by kernel_rfl)|3,0,_,_=>exact aD.1 (show bM (CV.aY (.d (.fn 147 0 (bT [])))) []=true from by kernel_rfl)|3,1,_,_=>exact aD.1 (show bM (CV.aY (cB false)) []=true from by kernel_rfl)),3,(by intro i hi;match i,hi with|0,_=>rfl|1,_=>rfl|2,_=>rfl), .inr ⟨rfl,rfl⟩,rfl,rfl,(by intro i hi;match i,hi with|0,_=>exact fun _=> ⟨rfl,rfl⟩|1,_=>exact fun _=> ⟨rfl,rfl⟩|2,_=>exact fun _=> ⟨rfl,rfl⟩)⟩⟩, .pf ⟨ji [some .i64] 1 2 4 (jB aaJ) (qc 2 Y5) [(.int .i64 5)] Ud [] 5 (jB aav) (qc 2 Zo),⟨(by intro i hi;match i,hi with|0,_=>rfl|1,_=>rfl|2,_=>rfl|3,_=>rfl),(by intro i hi j hj;match i,j,hi,hj with|0,0,_,_=>exact aD.1 (show bM (CV.aY (.d (.fn 145 0 (bT [])))) []=true from by kernel_rfl)|0,1,_,_=>exact aD.1 (show bM (CV.aY (cB false)) []=true from by kernel_rfl)|1,0,_,_=>exact aD.1 (show bM (CV.aY (.d (.fn 145 0 (bT [])))) []=true from by kernel_rfl)|1,1,_,_=>exact aD.1 (show bM (CV.aY (cB true)) []=true from by kernel_rfl)|2,0,_,_=>exact aD.1 (show bM (CV.aY (.d (.fn 147 0 (bT [])))) []=true from by kernel_rfl)|2,1,_,_=>exact aD.1 (show bM (CV.aY (cB true)) []=true from by kernel_rfl)|3,0,_,_=>exact aD.1 (show bM (CV.aY (.d (.fn 147 0 (bT [])))) []=true from by kernel_rfl)|3,1,_,_=>exact aD.1 (show bM (CV.aY (cB false)) []=true from by kernel_rfl)|4,0,_,_=>exact aD.1 (show bM (CV.aY (.d (.fn 146 0 (bT [])))) []=true from by kernel_rfl)|4,1,_,_=>exact aD.1 (show bM (CV.aY (cB true)) []=true from by kernel_rfl)),4,(by intro i hi;match i,hi with|0,_=>rfl|1,_=>rfl|2,_=>rfl|3,_=>rfl), .inr ⟨rfl,rfl⟩,rfl,rfl,(by intro i hi;match i,hi with|0,_=>exact fun _=> ⟨rfl,rfl⟩|1,_=>exact fun _=> ⟨rfl,rfl⟩|2,_=>exact fun _=> ⟨rfl,rfl⟩|3,_=>exact fun _=> ⟨rfl,rfl⟩)⟩⟩, .pf ⟨ji [some .i64] 1 2 5 (jB aav) (qc 2 Zo) [(.int .i64 6)] Uk [] 6 (jB Y9) (qc 2 ZM),⟨(by intro i hi;match i,hi with|0,_=>rfl|1,_=>rfl|2,_=>rfl|3,_=>rfl|4,_=>rfl),(by intro i hi j hj;match i,j,hi,hj with|0,0,_,_=>exact aD.1 (show bM (CV.aY (.d (.fn 145 0 (bT [])))) []=true from by kernel_rfl)|0,1,_,_=>exact aD.1 (show bM (CV.aY (cB false)) []=true from by kernel_rfl)|1,0,_,_=>exact aD.1 (show bM (CV.aY (.d (.fn 145 0 (bT [])))) []=true from by kernel_rfl)|1,1,_,_=>exact aD.1 (show bM (CV.aY (cB true)) []=true from by kernel_rfl)|2,0,_,_=>exact aD.1 (show bM (CV.aY (.d (.fn 147 0 (bT [])))) []=true from by kernel_rfl)|2,1,_,_=>exact aD.1 (show bM (CV.aY (cB true)) []=true from by kernel_rfl)|3,0,_,_=>exact aD.1 (show bM (CV.aY (.d (.fn 147 0 (bT [])))) []=true from by kernel_rfl)|3,1,_,_=>exact aD.1 (show bM (CV.aY (cB false)) []=true from by kernel_rfl)|4,0,_,_=>exact aD.1 (show bM (CV.aY (.d (.fn 146 0 (bT [])))) []=true from by kernel_rfl)|4,1,_,_=>exact aD.1 (show bM (CV.aY (cB true)) []=true from by kernel_rfl)|5,0,_,_=>exact aD.1 (show bM (CV.aY (.d (.fn 146 0 (bT [])))) []=true from by kernel_rfl)|5,1,_,_=>exact aD.1 (show bM (CV.aY (cB false)) []=true from by kernel_rfl)),5,(by intro i hi;match i,hi with|0,_=>rfl|1,_=>rfl|2,_=>rfl|3,_=>rfl|4,_=>rfl), .inr ⟨rfl,rfl⟩,rfl,rfl,(by intro i hi;match i,hi with|0,_=>exact fun _=> ⟨rfl,rfl⟩|1,_=>exact fun _=> ⟨rfl,rfl⟩|2,_=>exact fun _=> ⟨rfl,rfl⟩|3,_=>exact fun _=> ⟨rfl,rfl⟩|4,_=>exact fun _=> ⟨rfl,rfl⟩)⟩⟩, .pf ⟨ji [some .i64] 1 2 6 (jB Y9) (qc 2 ZM) [(.int .i64 7)] V3 [] 7 (jB YX) (qc 2 aaB),⟨(by intro i hi;match i,hi with|0,_=>rfl|1,_=>rfl|2,_=>rfl|3,_=>rfl|4,_=>rfl|5,_=>rfl),(by intro i hi j hj;match i,j,hi,hj with|0,0,_,_=>exact aD.1 (show bM (CV.aY (.d (.fn 145 0 (bT [])))) []=true from by kernel_rfl)|0,1,_,_=>exact aD.1 (show bM (CV.aY (cB false)) []=true from by kernel_rfl)|1,0,_,_=>exact aD.1 (show bM (CV.aY (.d (.fn 145 0 (bT [])))) []=true from by kernel_rfl)|1,1,_,_=>exact aD.1 (show bM (CV.aY (cB true)) []=true from by kernel_rfl)|2,0,_,_=>exact aD.1 (show bM (CV.aY (.d (.fn 147 0 (bT [])))) []=true from by kernel_rfl)|2,1,_,_=>exact aD.1 (show bM (CV.aY (cB true)) []=true from by kernel_rfl)|3,0,_,_=>exact aD.1 (show bM (CV.aY (.d (.fn 147 0 (bT [])))) []=true from by kernel_rfl)|3,1,_,_=>exact aD.1 (show bM (CV.aY (cB false)) []=true from by kernel_rfl)|4,0,_,_=>exact aD.1 (show bM (CV.aY (.d (.fn 146 0 (bT [])))) []=true from by kernel_rfl)|4,1,_,_=>exact aD.1 (show bM (CV.aY (cB true)) []=true from by kernel_rfl)|5,0,_,_=>exact aD.1 (show bM (CV.aY (.d (.fn 146 0 (bT [])))) []=true from by kernel_rfl)|5,1,_,_=>exact aD.1 (show bM (CV.aY (cB false)) []=true from by kernel_rfl)|6,0,_,_=>exact aD.1 (show bM (CV.aY (.d (.fn 148 0 (bT [])))) []=true from by kernel_rfl)|6,1,_,_=>exact aD.1 (show bM (CV.aY (cB true)) []=true from by kernel_rfl)),6,(by intro i hi;match i,hi with|0,_=>rfl|1,_=>rfl|2,_=>rfl|3,_=>rfl|4,_=>rfl|5,_=>rfl), .inr ⟨rfl,rfl⟩,rfl,rfl,(by intro i hi;match i,hi with|0,_=>exact fun _=> ⟨rfl,rfl⟩|1,_=>exact fun _=> ⟨rfl,rfl⟩|2,_=>exact fun _=> ⟨rfl,rfl⟩|3,_=>exact fun _=> ⟨rfl,rfl⟩|4,_=>exact fun _=> ⟨rfl,rfl⟩|5,_=>exact fun _=> ⟨rfl,rfl⟩)⟩⟩, .pf ⟨ji [some .i64] 1 2 7 (jB YX) (qc 2 aaB) [(.int .i64 8)] UA [] 8 (jB wV) (qc 2 wH),⟨(by intro i hi;match i,hi with|0,_=>rfl|1,_=>rfl|2,_=>rfl|3,_=>rfl|4,_=>rfl|5,_=>rfl|6,_=>rfl),(by intro i hi j hj;match i,j,hi,hj with|0,0,_,_=>exact aD.1 (show bM (CV.aY (.d (.fn 145 0 (bT [])))) []=true from by kernel_rfl)|0,1,_,_=>exact aD.1 (show bM (CV.aY (cB false)) []=true from by kernel_rfl)|1,0,_,_=>exact aD.1 (show bM (CV.aY (.d (.fn 145 0 (bT [])))) []=true from by kernel_rfl)|1,1,_,_=>exact aD.1 (show bM (CV.aY (cB true)) []=true from by kernel_rfl)|2,0,_,_=>exact aD.1 (show bM (CV.aY (.d (.fn 147 0 (bT [])))) []=true from by kernel_rfl)|2,1,_,_=>exact aD.1 (show bM (CV.aY (cB true)) []=true from by kernel_rfl)|3,0,_,_=>exact aD.1 (show bM (CV.aY (.d (.fn 147 0 (bT [])))) []=true from by kernel_rfl)|3,1,_,_=>exact aD.1 (show bM (CV.aY (cB false)) []=true from by kernel_rfl)|4,0,_,_=>exact aD.1 (show bM (CV.aY (.d (.fn 146 0 (bT [])))) []=true from by kernel_rfl)|4,1,_,_=>exact aD.1 (show bM (CV.aY (cB true)) []=true from by kernel_rfl)|5,0,_,_=>exact aD.1 (show bM (CV.aY (.d (.fn 146 0 (bT [])))) []=true from by kernel_rfl)|5,1,_,_=>exact aD.1 (show bM (CV.aY (cB false)) []=true from by kernel_rfl)|6,0,_,_=>exact aD.1 (show bM (CV.aY (.d (.fn 148 0 (bT [])))) []=true from by kernel_rfl)|6,1,_,_=>exact aD.1 (show bM (CV.aY (cB true)) []=true from by kernel_rfl)|7,0,_,_=>exact aD.1 (show bM (CV.aY (.d (.fn 148 0 (bT [])))) []=true from by kernel_rfl)|7,1,_,_=>exact aD.1 (show bM (CV.aY (cB false)) []=true from by kernel_rfl)),7,(by intro i hi;match i,hi with|0,_=>rfl|1,_=>rfl|2,_=>rfl|3,_=>rfl|4,_=>rfl|5,_=>rfl|6,_=>rfl), .inr ⟨rfl,rfl⟩,rfl,rfl,(by intro i hi;match i,hi with|0,_=>exact fun _=> ⟨rfl,rfl⟩|1,_=>exact fun _=> ⟨rfl,rfl⟩|2,_=>exact fun _=> ⟨rfl,rfl⟩|3,_=>exact fun _=> ⟨rfl,rfl⟩|4,_=>exact fun _=> ⟨rfl,rfl⟩|5,_=>exact fun _=> ⟨rfl,rfl⟩|6,_=>exact fun _=> ⟨rfl,rfl⟩)⟩⟩]<| .en () [] [(1,0)])
theorem qL (s_:(List Bool)) (u0:Bool):dJ Tryz.prog 81 [(sD (bJ (some u0) 1 ah s_))] [] (fun r=>(vO 0 false r.length)) (fun r=>[(0,some (aV 4 1 ah r))]) (oQ s_ u0):=
  dR tT mX Tryz.func81 (
  .r<| .r<| .it (.r<| .im (.ad 2 2 4 1 (ay ah ([]:List Bool)))<| .en ([]:List Bool) [] [(2,0)])
  (.a2 ((([]:List Bool).length+s_.length)*1≤140737488355328) (([]:List Bool).length+s_.length≤4611686018427387904)<| .rg {an:=[(0, .arr ([]:List Bool).length (ay ah ([]:List Bool))),(2, .arr (([]:List Bool)++s_).length (ay ah (([]:List Bool)++s_)))],fr:=[(0,3),(2,4)]} [.pf ⟨([]:List Bool).length=0,rfl⟩, .pf ⟨aS 0 1 (pK 1 []) (ay ah ([]:List Bool)),(fun i hi=>absurd hi (Nat.not_lt_zero i))⟩, .e (([]:List Bool).length),0,1, .pf ⟨(([]:List Bool)++s_).length=([]:List Bool).length+s_.length,List.length_append⟩, .pf ⟨aS (([]:List Bool).length+s_.length) 1 (qW (ay ah ([]:List Bool)) ([]:List Bool).length (ay ah s_)) (ay ah (([]:List Bool)++s_)),dD _ _ _ _⟩]<| .en (([]:List Bool)++s_) [] [(4,0)]))
theorem af (s:(List Bool)) {r:(List Bool)} (h:aj s=some r):Fn Tryz.prog 81 [(sD (bJ none 1 ah s))] [] (vO 0 false r.length) [(0,some (aV 4 1 ah r))]:=by
 refine Fn.nn (qL s true h) fun hl=> ?_
 have hs:s=[]:=List.eq_nil_of_length_eq_zero hl
 subst hs
 exact qL [] false (by rw [←h];kernel_rfl)
section
variable (u0:State)
abbrev OM:List (Nat × Option Ob):=[(0,some (.cells 29 [(.own 1 false u0.closed.length),(.own 2 false u0.locked.length),(.own 3 false u0.badLink.length),(.own 4 false u0.on_.length),(.own 5 false u0.badSource.length),(.own 6 false u0.earthed.length),(.own 7 false u0.badBus.length)])),(1,some (aV 4 1 ah u0.closed)),(2,some (aV 4 1 ah u0.locked)),(3,some (aV 4 1 ah u0.badLink)),(4,some (aV 4 1 ah u0.on_)),(5,some (aV 4 1 ah u0.badSource)),(6,some (aV 4 1 ah u0.earthed)),(7,some (aV 4 1 ah u0.badBus))]
end
theorem CX (u0:State):dJ Tryz.prog 145 [(.one (.ptr 0 0))] (OM u0) (fun _=>(vP 0 0)) (fun _=>(OM u0)) (qO u0):=
  dR tT mX Tryz.func145 (
  .r<| .r<| .e ())
theorem Dn (u0:State):dJ Tryz.prog 147 [(.one (.ptr 0 0))] (OM u0) (fun _=>(vP 0 5)) (fun _=>(OM u0)) (qP u0):=
  dR tT mX Tryz.func147 (
  .r<| .r<| .e ())
theorem Dx (u0:State):dJ Tryz.prog 146 [(.one (.ptr 0 0))] (OM u0) (fun _=>(vP 0 1)) (fun _=>(OM u0)) (qY u0):=
  dR tT mX Tryz.func146 (
  .r<| .r<| .e ())
theorem Cw (u0:State):dJ Tryz.prog 148 [(.one (.ptr 0 0))] (OM u0) (fun _=>(vP 0 3)) (fun _=>(OM u0)) (qX u0):=
  dR tT mX Tryz.func148 (
  .r<| .r<| .e ())
abbrev Jt:List CV:=[(cI 1),(.d (.fn 124 0 (bT []))),(cI 46),(.d (.fn 125 0 (bT []))),(cI 47),(.d (.fn 127 0 (bT []))),(cI 43),(.d (.fn 130 0 (bT []))),(cI 44),(.d (.fn 131 0 (bT [])))]
theorem zH:dJ Tryz.prog 111 [] [] (fun _=>(.v (.agg Jt))) (fun _=>[]) (tK):=
  dR tT mX Tryz.func111 (
  .rg {fr:=[(0,1)]} []<| .r<| .en () [1] [])
section
variable (p:au) (s_:State) (x:aJ)
abbrev RP:List SV:=[(.agg (k1 p)),(.agg (k21 s_)),(.agg (PS x))]
end
theorem Az (p:au) (s_:State) (x:aJ):dJ Tryz.prog 124 (RP p s_ x) [] (fun r=>(vB r)) (fun _=>[]) (vW p s_ x):=
  dR tT mX Tryz.func124 (
  .rg {fr:=[(0,3),(1,4),(2,5)],fz:=[3,5]} []<| .cl 2 (wC p x) fun r_=> .r<| .e (!r_))
section
variable (s_:(List Bool)) (u0:(List Bool)) (u1:(List Bool)) (u2:(List Bool)) (u3:(List Bool)) (u4:(List Bool)) (u5:(List Bool))
abbrev Yq:List SV:=[(sD (Ny s_ u0 u1 u2 u3 u4 u5))]
end
theorem pW (s_:(List Bool)) (u0:(List Bool)) (u1:(List Bool)) (u2:(List Bool)) (u3:(List Bool)) (u4:(List Bool)) (u5:(List Bool)):dJ Tryz.prog 145 (Yq s_ u0 u1 u2 u3 u4 u5) [] (fun r=>(vD (zB [(bJ none 1 ah r.1),(bJ none 1 ah r.2.1),(bJ none 1 ah r.2.2.1),(bJ none 1 ah r.2.2.2.1),(bJ none 1 ah r.2.2.2.2.1),(bJ none 1 ah r.2.2.2.2.2.1),(bJ none 1 ah r.2.2.2.2.2.2)] 0))) (fun _=>[]) (nI s_ u0 u1 u2 u3 u4 u5):=
  dR tT mX Tryz.func145 (
  .r<| .r<| .e (s_,u0,u1,u2,u3,u4,u5))
theorem pO (s_:(List Bool)) (u0:(List Bool)) (u1:(List Bool)) (u2:(List Bool)) (u3:(List Bool)) (u4:(List Bool)) (u5:(List Bool)):dJ Tryz.prog 147 (Yq s_ u0 u1 u2 u3 u4 u5) [] (fun r=>(vD (zB [(bJ none 1 ah r.1),(bJ none 1 ah r.2.1),(bJ none 1 ah r.2.2.1),(bJ none 1 ah r.2.2.2.1),(bJ none 1 ah r.2.2.2.2.1),(bJ none 1 ah r.2.2.2.2.2.1),(bJ none 1 ah r.2.2.2.2.2.2)] 5))) (fun _=>[]) (nC s_ u0 u1 u2 u3 u4 u5):=
  dR tT mX Tryz.func147 (
  .r<| .r<| .e (s_,u0,u1,u2,u3,u4,u5))
theorem pF (s_:(List Bool)) (u0:(List Bool)) (u1:(List Bool)) (u2:(List Bool)) (u3:(List Bool)) (u4:(List Bool)) (u5:(List Bool)):dJ Tryz.prog 146 (Yq s_ u0 u1 u2 u3 u4 u5) [] (fun r=>(vD (zB [(bJ none 1 ah r.1),(bJ none 1 ah r.2.1),(bJ none 1 ah r.2.2.1),(bJ none 1 ah r.2.2.2.1),(bJ none 1 ah r.2.2.2.2.1),(bJ none 1 ah r.2.2.2.2.2.1),(bJ none 1 ah r.2.2.2.2.2.2)] 1))) (fun _=>[]) (nG s_ u0 u1 u2 u3 u4 u5):=
  dR tT mX Tryz.func146 (
  .r<| .r<| .e (s_,u0,u1,u2,u3,u4,u5))
theorem pU (s_:(List Bool)) (u0:(List Bool)) (u1:(List Bool)) (u2:(List Bool)) (u3:(List Bool)) (u4:(List Bool)) (u5:(List Bool)):dJ Tryz.prog 148 (Yq s_ u0 u1 u2 u3 u4 u5) [] (fun r=>(vD (zB [(bJ none 1 ah r.1),(bJ none 1 ah r.2.1),(bJ none 1 ah r.2.2.1),(bJ none 1 ah r.2.2.2.1),(bJ none 1 ah r.2.2.2.2.1),(bJ none 1 ah r.2.2.2.2.2.1),(bJ none 1 ah r.2.2.2.2.2.2)] 3))) (fun _=>[]) (nD s_ u0 u1 u2 u3 u4 u5):=
  dR tT mX Tryz.func148 (
  .r<| .r<| .e (s_,u0,u1,u2,u3,u4,u5))
end
end Sg
