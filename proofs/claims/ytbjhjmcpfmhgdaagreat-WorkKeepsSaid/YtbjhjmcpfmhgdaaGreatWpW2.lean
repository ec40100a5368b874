import Derived.Test.YtbjhjmcpfmhgdaaGreatWpW1
set_option linter.all false
namespace Sg
open Go Go.Proofs
set_option maxRecDepth 20000
noncomputable section
section
variable (o_:(List Int)) (u0:ah) (v2:Int) (v4:(List Int)) (l:(List Int)) (v5:(List (Int × Bool))) (u1:nC) (v1:(List Int)) (h_:Int) (v0:(List (Int × Bool))) (u5:(List Int)) (u6:Int) (u2:nC) (u7:(List Int)) (u9:Int) (u3:nC)
abbrev Wz:List SV:=[(.one (.ptr 0 0)),(.one (.ptr 1 0)),(.one (.ptr 2 0)),(.one (.ptr 3 0)),(.one (.ptr 4 0)),(.one (.ptr 5 0)),(.one (.opt 6 1 0 0)),(.one (.ptr 7 0))]
abbrev UU:Nat × Option Ob:=(2,some (.cells 210 [(.fn 103 0 1 (Ay [(.ptr 3 0)]))]))
abbrev Uv:Nat × Option Ob:=(7,some (.cells 1 [(.fn 104 0 8 (Ay [(.ptr 0 0),(.ptr 1 0),(.ptr 2 0),(.ptr 3 0),(.ptr 4 0),(.ptr 5 0),(.opt 6 1 0 0),(.ptr 7 0)]))]))
abbrev Wu:List (Nat × Option Ob):=[(0,some (.cells 39 [(.own 8 false o_.length)])),(Gy u0),UU,(3,some (.cells 3 [(cI v2)])),(4,some (.cells 39 [(.own 9 false v4.length)])),(5,some (.cells 196 [(.mp 10)])),(6,some (bJ 209 1 (aF .u8) l)),Uv,(8,some (zK o_)),(9,some (zK v4)),(10,some (Kk v5))]
abbrev tN:=((o_.length:Int).toNat)
abbrev Wd:=((0:Int)≤(o_.length:Int)∧(o_.length:Int)<((5:Nat):Int))
abbrev WG:=(at' [u1.e0,u1.e1,u1.e2,u1.e3,u1.e4] (tN o_))
abbrev OG:List DV:=[(.int .u8 (WG o_ u1))]
abbrev Uo:=(IntKind.wrap .u8 (((BitVec.ofInt (IntKind.bits .u8) (at' v1 h_.toNat)|||BitVec.ofInt (IntKind.bits .u8) (WG o_ u1)).toNat:Int)))
abbrev Wj:=(aV bP (Uo o_ u1 v1 h_) v0)
abbrev Zx:=((Wj o_ u1 v1 h_ v0).getD false)
abbrev XQ:List CV:=[(cB (Zx o_ u1 v1 h_ v0))]
abbrev XG:List DV:=[(.int .u8 (Uo o_ u1 v1 h_))]
abbrev Wy:=(u5.set u6.toNat (Uo o_ u2 u5 u6))
abbrev Zr:=(aA (aF .u8) (Wy o_ u5 u6 u2))
abbrev Zn:=(IntKind.wrap .u8 (((BitVec.ofInt (IntKind.bits .u8) (at' u7 u9.toNat) &&& ~~~ BitVec.ofInt (IntKind.bits .u8) (WG o_ u3)).toNat:Int)))
abbrev V7:=(u7.set u9.toNat (Zn o_ u7 u9 u3))
abbrev YH:=(aA (aF .u8) (V7 o_ u7 u9 u3))
end
theorem xS (w6:(List Int)→ah→Int→(List Int)→(List (Int × Bool))→(List Int)→Option ((List Int) × Int × (List Int) × (List (Int × Bool)) × (List Int))) (rec_ok: ∀(o_:(List Int)) (u0:ah) (v2:Int) (v4:(List Int)) (v5:(List (Int × Bool))) (l:(List Int)) (r:((List Int) × Int × (List Int) × (List (Int × Bool)) × (List Int))),w6 o_ u0 v2 v4 v5 l=some r→Fn Tryz.prog 104 Wz (Wu o_ u0 v2 v4 l v5) ((fun r=>(.eT [])) r) ((fun r=>[(0,some (.cells 39 [(.own 11 false r.1.length)])),(Gy u0),UU,(3,some (.cells 3 [(cI r.2.1)])),(4,some (.cells 39 [(.own 12 false r.2.2.1.length)])),(5,some (.cells 196 [(.mp 10)])),(6,some (bJ 209 1 (aF .u8) r.2.2.2.2)),Uv,(8,none),(9,none),(10,some (LV 198 4 false false 1 1 (aF .u8) ai r.2.2.2.1)),(11,some (bJ 3 1 (aF .i64) r.1)),(12,some (bJ 3 1 (aF .i64) r.2.2.1))]) r)) (o_:(List Int)) (u0:ah) (v2:Int) (v4:(List Int)) (v5:(List (Int × Bool))) (l:(List Int)):dJ Tryz.prog 104 Wz (Wu o_ u0 v2 v4 l v5) (fun r=>(.eT [])) (fun r=>[(0,some (.cells 39 [(.own 11 false r.1.length)])),(Gy u0),UU,(3,some (.cells 3 [(cI r.2.1)])),(4,some (.cells 39 [(.own 12 false r.2.2.1.length)])),(5,some (.cells 196 [(.mp 10)])),(6,some (bJ 209 1 (aF .u8) r.2.2.2.2)),Uv,(8,none),(9,none),(10,some (LV 198 4 false false 1 1 (aF .u8) ai r.2.2.2.1)),(11,some (bJ 3 1 (aF .i64) r.1)),(12,some (bJ 3 1 (aF .i64) r.2.2.1))]) (kE w6 o_ u0 v2 v4 v5 l):=
  dY tT mX Tryz.func104 (
  .r<| .cr 5 ⟨fun{r_} hr_=>((Fn.Vg (args:=[(sD (aS none 6 eP.cell (u0.jobs.drop (tN o_)))),(.one (.fn 103 0 1 (Ay [(.ptr 3 0)])))]) (args':=[(sD (.sl none 6 (u0.jobs.length - (tN o_)) (fun iq jq=>aA eP.cell u0.jobs (iq+(tN o_)) jq))),(.one (.fn 103 0 1 (Ay [(.ptr 3 0)])))]) (hin:=[(3,some (.cells 3 [(cI v2)]))]) (hin':=[(3,some (.cells 3 [(cI v2)]))]) (rK [(0,3)] (qU (u0.jobs.drop (tN o_)) v2 hr_)) ⟨tK.one (oo.d (pK.YU (by first|rw [List.length_append,List.length_drop]|simp only [List.length_set,List.length_drop,eX]|exact List.length_replicate) (.inr rfl) (Qc _ _ _ _))),tK.refl _,trivial⟩ (.refl _)):Fn Tryz.prog 105 [(sD (.sl none 6 (u0.jobs.length - (tN o_)) (fun iq jq=>aA eP.cell u0.jobs (iq+(tN o_)) jq))),(.one (.fn 103 0 1 (Ay [(.ptr 3 0)])))] [(3,some (.cells 3 [(cI v2)]))] (vB r_) [(3,some (.cells 3 [(cI v2)]))])⟩ fun r_=> .a1 ((0:Int)≤(o_.length:Int)∧(o_.length:Int)≤(u0.jobs.length:Int))<| .rg {} [0,1]<| .it (.im (.re 0 0 8 31)<| .im (.re 4 0 9 32)<| .en (o_,v2,v4,v5,l) [] [(31,11),(32,12)])
  (.r<| .it (.cr 2 ⟨fun{w3} hr_1=>((Fn.IW (frz:=[8]) (p:=[o_.length=o_.length]) (nL u0 o_ hr_1) (by kernel_rfl) ⟨rfl,trivial⟩ rfl):Fn Tryz.prog 106 [(.agg (zP u0)),(.one (.own 8 false o_.length))] [(8,some (zK o_))] (vI w3) [(8,some (zK o_))])⟩ fun w3=> .r<| .r<| .it (.cl 2 ⟨fun{v8} hr_2=>((Fn.Bv (args:=[(sD (BI o_))]) (frz:=[8]) (p:=[o_.length=o_.length]) (Fn.yL [(0,33)] (wL o_ hr_2) (by kernel_rfl) (by kernel_rfl) (by kernel_rfl) (by kernel_rfl)) (by kernel_rfl) ⟨rfl,trivial⟩ (by kernel_rfl) ⟨(fun _ _=>rfl),trivial⟩ (by kernel_rfl)):Fn Tryz.prog 107 [(.one (.own 8 false o_.length))] [(8,some (zK o_))] (vO 33 false v8.length) [(8,some (zK o_)),(33,some (zK v8))])⟩ fun v8=> .r<| .im (.re 0 0 8 34)<| .en (o_,w3,v8,v5,l) [] [(34,11),(33,12)])
  (.im (.re 0 0 8 35)<| .im (.re 4 0 9 36)<| .en (o_,v2,v4,v5,l) [] [(35,11),(36,12)]))
  (.a1 ((0:Int)≤(o_.length:Int)∧(o_.length:Int)<(u0.jobs.length:Int))<| .rg {fr:=[(5,37)]} []<| .rg {fz:=[37]} []<| .im (.re 0 0 8 66)<| .im (.re 4 0 9 67)<| .lp (σ:=((List Int) × Int × (List Int) × (List (Int × Bool)) × (List Int) × Int)) (β:=((List Int) × Int × (List Int) × (List (Int × Bool)) × (List Int))) (o_,v2,v4,v5,l,(at' u0.jobs (tN o_)).from_) [] [(66,52),(67,53)] ⟨[0,1,3,5,6,7,8,10],[1,2,5,7],fun(o0,v7,v6,v0,v1,u4)=>[(11,(vI u4))],fun(o0,v7,v6,v0,v1,u4)=>[(0,some (.cells 39 [(.own 52 false o0.length)])),(3,some (.cells 3 [(cI v7)])),(4,some (.cells 39 [(.own 53 false v6.length)])),(6,some (bJ 209 1 (aF .u8) v1)),(8,none),(9,none),(10,some (Kk v0)),(52,some (zK o0)),(53,some (zK v6))]⟩ ⟨[],[1,2,5,7],fun(o03,o0001,o04,o05,v9)=>[],fun(o03,o0001,o04,o05,v9)=>[(0,some (.cells 39 [(.own 52 false o03.length)])),(3,some (.cells 3 [(cI o0001)])),(4,some (.cells 39 [(.own 53 false o04.length)])),(6,some (bJ 209 1 (aF .u8) v9)),(8,none),(9,none),(10,some (LV 198 4 false false 1 1 (aF .u8) ai o05)),(52,some (bJ 3 1 (aF .i64) o03)),(53,some (bJ 3 1 (aF .i64) o04))]⟩
  (fun(o0,v7,v6,v0,v1,u4)=> .r<| .it (.a2 ((o0.length+[u4].length)*8≤140737488355328) (o0.length+[u4].length≤4611686018427387904)<| .rg {an:=[(2, .arr [u4].length (aA (aF .i64) [u4])),(3, .arr (o0++[u4]).length (MV o0 u4))],fr:=[(2,60),(3,61)]} [.pf ⟨[u4].length=1,rfl⟩, .pf ⟨aI 1 1 (nN 1 [(.int .i64 u4)]) (aA (aF .i64) [u4]),(by intro i hi j hj;match i,j,hi,hj with|0,0,_,_=>rfl)⟩, .e (o0.length),0,1, .pf ⟨(o0++[u4]).length=o0.length+[u4].length,List.length_append⟩, .pf ⟨aI (o0.length+[u4].length) 1 (WI o0 u4) (MV o0 u4),dG _ _ _ _⟩]<| .cr 3 ⟨fun{w4} hr_3=>((Fn.IW (frz:=[61]) (p:=[(o0++[u4]).length=(o0++[u4]).length]) (pF u0 (o0++[u4]) (o_.length:Int) hr_3) (by kernel_rfl) ⟨rfl,trivial⟩ rfl):Fn Tryz.prog 108 [(.agg (zP u0)),(.one (.own 61 false ((o0++[u4]).length))),(sI (o_.length:Int))] [(61,some (bJ 3 1 (aF .i64) (o0++[u4])))] (vB w4) [(61,some (bJ 3 1 (aF .i64) (o0++[u4])))])⟩ fun w4=> .r<| .r<| .lp (σ:=(Bool × Int)) (β:=Bool) (w4,u4) [] [] ⟨[0,1,3,5,6,7,8,10,11],[0,1,2,3,4,5,6,7,8,9,10,53,61],fun(w0,h_)=>[(12,(vB w0)),(13,(vI h_))],fun(w0,h_)=>[]⟩ ⟨[0,1,3,5,6,7,8,10,11],[0,1,2,3,4,5,6,7,8,9,10,53,61],fun w5=>[(12,(vB w5))],fun w5=>[]⟩
  (fun(w0,h_)=> .r<| .it (.cl 4 dm fun u1=> .a3 ((0:Int)≤h_∧h_<(48:Nat)) (h_.toNat<v1.length) (Wd o_)<| .rg {an:=[(6, .vals (OG o_ u1)),(8, .look (Wj o_ u1 v1 h_ v0).isSome (XQ o_ u1 v1 h_ v0))]} [0,1,3,2, .dv 2 ⟨(0:Int)≤(o_.length:Int)∧(o_.length:Int)<((5:Nat):Int),(o_.length:Int).toNat*1+1≤(xI u1).length,fun ax=>IU (n:=5) (sz:=1) (Nat.le_refl _) ax⟩, .dv 2 ⟨(0:Int)≤(o_.length:Int)∧(o_.length:Int)<((5:Nat):Int),((xI u1).drop ((o_.length:Int).toNat*1)).take 1=(OG o_ u1).map .d,fun ax=>JD (n:=5) (sz:=1) (g:=fun q=>[(.d (.int .u8 (at' [u1.e0,u1.e1,u1.e2,u1.e3,u1.e4] q)))]) (by intro q hq;match q,hq with|0,_=>rfl|1,_=>rfl|2,_=>rfl|3,_=>rfl|4,_=>rfl) ax⟩, .pf ⟨kD [some .u8] 1 1 v0.length (uo (aF .u8) v0) (vk ai v0) (XG o_ u1 v1 h_) [(.d (.bool false))] (Wj o_ u1 v1 h_ v0).isSome (XQ o_ u1 v1 h_ v0),ja (fun _=>rfl) (fun _ _=>rfl) v0 (Uo o_ u1 v1 h_) false rfl rfl rfl⟩]<| .r<| .e (.next ((Zx o_ u1 v1 h_ v0),(k8 h_))))
  (.e (.done (.brk w0))))
  (fun w5=> .r<| .it (.r<| .lp (σ:=((List Int) × Int)) (β:=(List Int)) (v1,u4) [] [] ⟨[0,1,3,5,6,7,8,10,11],[0,1,2,3,4,5,7,8,9,10,53,61],fun(u5,u6)=>[(14,(vI u6))],fun(u5,u6)=>[(6,some (bJ 209 1 (aF .u8) u5))]⟩ ⟨[0,1,3,5,6,7,8,10,11],[0,1,2,3,4,5,7,8,9,10,53,61],fun w1=>[],fun w1=>[(6,some (bJ 209 1 (aF .u8) w1))]⟩
  (fun(u5,u6)=> .r<| .it (.cl 3 dm fun u2=> .a3 ((0:Int)≤u6∧u6<(48:Nat)) (u6.toNat<u5.length) (Wd o_)<| .rg {an:=[(5, .vals (OG o_ u2)),(8, .arr 0 (Zr o_ u5 u6 u2))]} [0,1,3,2, .dv 2 ⟨(0:Int)≤(o_.length:Int)∧(o_.length:Int)<((5:Nat):Int),(o_.length:Int).toNat*1+1≤(xI u2).length,fun ax=>IU (n:=5) (sz:=1) (Nat.le_refl _) ax⟩, .dv 2 ⟨(0:Int)≤(o_.length:Int)∧(o_.length:Int)<((5:Nat):Int),((xI u2).drop ((o_.length:Int).toNat*1)).take 1=(OG o_ u2).map .d,fun ax=>JD (n:=5) (sz:=1) (g:=fun q=>[(.d (.int .u8 (at' [u2.e0,u2.e1,u2.e2,u2.e3,u2.e4] q)))]) (by intro q hq;match q,hq with|0,_=>rfl|1,_=>rfl|2,_=>rfl|3,_=>rfl|4,_=>rfl) ax⟩,0,1, .pf ⟨aI u5.length 1 (oN (aA (aF .u8) u5) u6.toNat 0 (XG o_ u2 u5 u6)) (Zr o_ u5 u6 u2),gI _ _ _ _ _ _ _ _ rfl (fun j hj=>(match j,hj with|0,_=>rfl))⟩]<| .im (.ll 6 u5 (Wy o_ u5 u6 u2))<| .r<| .e (.next ((Wy o_ u5 u6 u2),(k8 u6))))
  (.e (.done (.brk u5))))
  (fun w1=> .cl 1 (lK [(8,61),(9,53),(11,62),(12,63)] ⟨fun h=>rec_ok (o0++[u4]) u0 v7 v6 v0 w1 _ h⟩) fun v3=> .r<| .r<| .lp (σ:=((List Int) × Int)) (β:=(List Int)) (v3.2.2.2.2,u4) [] [] ⟨[0,1,3,5,6,7,8,10,11],[0,1,2,3,4,5,7,8,9,10,62,63],fun(u7,u9)=>[(15,(vI u9))],fun(u7,u9)=>[(6,some (bJ 209 1 (aF .u8) u7))]⟩ ⟨[0,1,3,5,6,7,8,10,11],[0,1,2,3,4,5,7,8,9,10,62,63],fun w2=>[],fun w2=>[(6,some (bJ 209 1 (aF .u8) w2))]⟩
  (fun(u7,u9)=> .r<| .it (.cl 3 dm fun u3=> .a3 ((0:Int)≤u9∧u9<(48:Nat)) (u9.toNat<u7.length) (Wd o_)<| .rg {an:=[(5, .vals (OG o_ u3)),(8, .arr 0 (YH o_ u7 u9 u3))]} [0,1,3,2, .dv 2 ⟨(0:Int)≤(o_.length:Int)∧(o_.length:Int)<((5:Nat):Int),(o_.length:Int).toNat*1+1≤(xI u3).length,fun ax=>IU (n:=5) (sz:=1) (Nat.le_refl _) ax⟩, .dv 2 ⟨(0:Int)≤(o_.length:Int)∧(o_.length:Int)<((5:Nat):Int),((xI u3).drop ((o_.length:Int).toNat*1)).take 1=(OG o_ u3).map .d,fun ax=>JD (n:=5) (sz:=1) (g:=fun q=>[(.d (.int .u8 (at' [u3.e0,u3.e1,u3.e2,u3.e3,u3.e4] q)))]) (by intro q hq;match q,hq with|0,_=>rfl|1,_=>rfl|2,_=>rfl|3,_=>rfl|4,_=>rfl) ax⟩,0,1, .pf ⟨aI u7.length 1 (oN (aA (aF .u8) u7) u9.toNat 0 [(.int .u8 (Zn o_ u7 u9 u3))]) (YH o_ u7 u9 u3),gI _ _ _ _ _ _ _ _ rfl (fun j hj=>(match j,hj with|0,_=>rfl))⟩]<| .im (.ll 6 u7 (V7 o_ u7 u9 u3))<| .r<| .e (.next ((V7 o_ u7 u9 u3),(k8 u9))))
  (.e (.done (.brk u7))))
  (fun w2=> .a1 ((0:Int)≤(o_.length:Int)∧(o_.length:Int)≤(v3.1.length:Int))<| .rg {an:=[(2, .arr (v3.1.take (tN o_)).length (aA (aF .i64) (v3.1.take (tN o_))))],fr:=[(2,64)]} [.e (v3.1.length),0, .dv 0 ⟨(0:Int)≤(o_.length:Int)∧(o_.length:Int)≤(v3.1.length:Int),(v3.1.take (tN o_)).length=(tN o_),fun ax=>take_len ax⟩, .pf ⟨aI (tN o_) 1 (aA (aF .i64) v3.1) (aA (aF .i64) (v3.1.take (tN o_))),Ey _ _ _ _⟩]<| .r<| .en (.next ((v3.1.take (tN o_)),v3.2.1,v3.2.2.1,v3.2.2.2.1,w2,(k8 u4))) [] [(64,52),(63,53)])))
  (.a1 ((0:Int)≤(o_.length:Int)∧(o_.length:Int)≤((o0++[u4]).length:Int))<| .rg {an:=[(2, .arr ((o0++[u4]).take (tN o_)).length (aA (aF .i64) ((o0++[u4]).take (tN o_))))],fr:=[(2,65)]} [.e ((o0++[u4]).length),0, .dv 0 ⟨(0:Int)≤(o_.length:Int)∧(o_.length:Int)≤((o0++[u4]).length:Int),((o0++[u4]).take (tN o_)).length=(tN o_),fun ax=>take_len ax⟩, .pf ⟨aI (tN o_) 1 (MV o0 u4) (aA (aF .i64) ((o0++[u4]).take (tN o_))),Ey _ _ _ _⟩]<| .r<| .en (.next (((o0++[u4]).take (tN o_)),v7,v6,v0,v1,(k8 u4))) [] [(65,52)])))
  (.e (.done (.brk (o0,v7,v6,v0,v1)))))
  (fun(o03,o0001,o04,o05,v9)=> .en (o03,o0001,o04,o05,v9) [] [(52,11),(53,12)]))))
theorem vQ: ∀(n:Nat) (o_:(List Int)) (u0:ah) (u2:Int) (u1:(List Int)) (u3:(List (Int × Bool))) (l:(List Int)),dJ Tryz.prog 104 Wz (Wu o_ u0 u2 u1 l u3) (fun r=>(.eT [])) (fun r=>[(0,some (.cells 39 [(.own 11 false r.1.length)])),(Gy u0),UU,(3,some (.cells 3 [(cI r.2.1)])),(4,some (.cells 39 [(.own 12 false r.2.2.1.length)])),(5,some (.cells 196 [(.mp 10)])),(6,some (bJ 209 1 (aF .u8) r.2.2.2.2)),Uv,(8,none),(9,none),(10,some (LV 198 4 false false 1 1 (aF .u8) ai r.2.2.2.1)),(11,some (bJ 3 1 (aF .i64) r.1)),(12,some (bJ 3 1 (aF .i64) r.2.2.1))]) (jC n o_ u0 u2 u1 u3 l)
 |0,_,_,_,_,_,_=> ⟨fun h=>by cases h⟩
 |n+1,o_,u0,u2,u1,u3,l=>xS (jC n) (fun o_ u0 u2 u1 u3 l _ h=>vQ n o_ u0 u2 u1 u3 l h) o_ u0 u2 u1 u3 l
section
variable (a:(List Int)) (b:(List Int))
abbrev Ul:List SV:=[(sD (BI a)),(sD (BI b))]
end
theorem tY (a:(List Int)) (b:(List Int)):dJ Tryz.prog 11 (Ul a b) [] (fun r=>(vB r)) (fun _=>[]) (rW a b):=
  dY tT mX Tryz.func11 (
  .r<| .r<| .it (.r<| .e false)
  (.r<| .lp (σ:=Int) (β:=Unit) (0) [] [] ⟨[0,1],[],fun i=>[(5,(vI i))],fun i=>[]⟩ ⟨[],[],fun _=>[],fun _=>[]⟩
  (fun i=> .r<| .it (.a2 (Av a i) (Av b i)<| .rg {} [0,1]<| .it (.r<| .e (.done (.ret false)))
  (.r<| .e (.next (k8 i))))
  (.e (.done (.brk ()))))
  (fun _=> .r<| .e true)))
theorem mh (a:Int) (b:Int):dJ Tryz.prog 82 [(sI a),(sI b)] [] (fun r=>(.v (.agg [(cI r.a),(cI r.b),(cI r.kind),(cI r.most),(cI r.ohm),(.d (aS none 2 nJ.cell r.trip))]))) (fun _=>[]) (lI a b):=
  dY tT mX Tryz.func82 (
  .rg {fr:=[(0,1)]} []<| .r<| .en (⟨a,b,3,500,10,([]:List nJ)⟩:Link) [1] [])
abbrev U8:DV:=(aS (some true) 2 Part.cell [(⟨3,0⟩:Part)])
abbrev TB:DV:=(aS (some true) 2 Part.cell [(⟨3,1⟩:Part)])
abbrev X7:DV:=(aS (some true) 5 Source.cell [(⟨0,1,500,1,20⟩:Source),(⟨1,1,500,1,20⟩:Source)])
abbrev Tn:DV:=(aS (some true) 1 ai (List.replicate 3 (false:Bool)))
abbrev T9:DV:=(aS (some true) 1 ai (List.replicate 4 (false:Bool)))
theorem rQ:dJ Tryz.prog 22 [] [] (fun r=>(.v (.agg [(cI r.plant.buses),(.d (aS none 5 Source.cell r.plant.sources)),(.d (aS none 6 Link.cell r.plant.links)),(.d (aS none 4 aN.cell r.plant.racks)),(.d (aS none 1 ai r.state.closed)),(.d (aS none 1 ai r.state.locked)),(.d (aS none 1 ai r.state.badLink)),(.d (aS none 1 ai r.state.on_)),(.d (aS none 1 ai r.state.badSource)),(.d (aS none 1 ai r.state.earthed)),(.d (aS none 1 ai r.state.badBus)),(.d (aS none 3 Transfer.cell r.transfers)),(.d (aS none 6 eP.cell r.jobs)),(cI r.people),(cB r.redundant)]))) (fun _=>[]) (gJ):=
  dY tT mX Tryz.func22 (
  .rg {fr:=[(0,16)]} []<| .r<| .cl 4 (mh 0 2) fun r_=> .cl 6 (mh 1 3) fun u0=> .cl 8 (mh 2 3) fun u1=> .rg {an:=[(2, .arr [(⟨0,1,500,1,20⟩:Source),(⟨1,1,500,1,20⟩:Source)].length (aA Source.cell [(⟨0,1,500,1,20⟩:Source),(⟨1,1,500,1,20⟩:Source)])),(9, .arr [r_,u0,u1].length (aA Link.cell [r_,u0,u1])),(12, .arr [(⟨(⟨2,3⟩:ay),100,2⟩:aN)].length (aA aN.cell [(⟨(⟨2,3⟩:ay),100,2⟩:aN)]))],fr:=[(2,17),(9,18),(12,19),(14,20)]} [.pf ⟨[(⟨0,1,500,1,20⟩:Source),(⟨1,1,500,1,20⟩:Source)].length=2,rfl⟩, .pf ⟨aI 2 5 (nN 5 [(.int .i64 0),(.int .i64 1),(.int .i64 500),(.int .i64 1),(.int .i64 20),(.int .i64 1),(.int .i64 1),(.int .i64 500),(.int .i64 1),(.int .i64 20)]) (aA Source.cell [(⟨0,1,500,1,20⟩:Source),(⟨1,1,500,1,20⟩:Source)]),(by intro i hi j hj;match i,j,hi,hj with|0,0,_,_=>rfl|0,1,_,_=>rfl|0,2,_,_=>rfl|0,3,_,_=>rfl|0,4,_,_=>rfl|1,0,_,_=>rfl|1,1,_,_=>rfl|1,2,_,_=>rfl|1,3,_,_=>rfl|1,4,_,_=>rfl)⟩,2,1,0, .pf ⟨[r_,u0,u1].length=3,rfl⟩, .pf ⟨aI 3 6 (nN 6 [(.int .i64 r_.a),(.int .i64 r_.b),(.int .i64 r_.kind),(.int .i64 r_.most),(.int .i64 r_.ohm),(aS none 2 nJ.cell r_.trip),(.int .i64 u0.a),(.int .i64 u0.b),(.int .i64 u0.kind),(.int .i64 u0.most),(.int .i64 u0.ohm),(aS none 2 nJ.cell u0.trip),(.int .i64 u1.a),(.int .i64 u1.b),(.int .i64 u1.kind),(.int .i64 u1.most),(.int .i64 u1.ohm),(aS none 2 nJ.cell u1.trip)]) (aA Link.cell [r_,u0,u1]),(by intro i hi j hj;match i,j,hi,hj with|0,0,_,_=>rfl|0,1,_,_=>rfl|0,2,_,_=>rfl|0,3,_,_=>rfl|0,4,_,_=>rfl|0,5,_,_=>rfl|1,0,_,_=>rfl|1,1,_,_=>rfl|1,2,_,_=>rfl|1,3,_,_=>rfl|1,4,_,_=>rfl|1,5,_,_=>rfl|2,0,_,_=>rfl|2,1,_,_=>rfl|2,2,_,_=>rfl|2,3,_,_=>rfl|2,4,_,_=>rfl|2,5,_,_=>rfl)⟩, .pf ⟨[(⟨(⟨2,3⟩:ay),100,2⟩:aN)].length=1,rfl⟩, .pf ⟨aI 1 4 (nN 4 [(.int .i64 2),(.int .i64 3),(.int .i64 100),(.int .i64 2)]) (aA aN.cell [(⟨(⟨2,3⟩:ay),100,2⟩:aN)]),(by intro i hi j hj;match i,j,hi,hj with|0,0,_,_=>rfl|0,1,_,_=>rfl|0,2,_,_=>rfl|0,3,_,_=>rfl)⟩]<| .as _ inferInstance [(0:Int)≤3,(1:Int)*3≤281474976710656,(3:Int)≤9223372036854775807,(0:Int)≤2,(1:Int)*2≤281474976710656,(2:Int)≤9223372036854775807,(0:Int)≤4,(1:Int)*4≤281474976710656,(4:Int)≤9223372036854775807] (fun h=> ⟨h.1,h.2.1,h.2.2.1,h.2.2.2.1,h.2.2.2.2.1,h.2.2.2.2.2.1,h.2.2.2.2.2.2.1,h.2.2.2.2.2.2.2.1,h.2.2.2.2.2.2.2.2,trivial⟩:(((0:Int)≤3)∧((1:Int)*3≤281474976710656)∧((3:Int)≤9223372036854775807)∧((0:Int)≤2)∧((1:Int)*2≤281474976710656)∧((2:Int)≤9223372036854775807)∧((0:Int)≤4)∧((1:Int)*4≤281474976710656)∧((4:Int)≤9223372036854775807))→_)<| .rg {an:=[(0, .arr [true,true,false].length (aA ai [true,true,false])),(1, .arr (List.replicate 3 (false:Bool)).length (aA ai (List.replicate 3 (false:Bool)))),(2, .arr (List.replicate 3 (false:Bool)).length (aA ai (List.replicate 3 (false:Bool)))),(3, .arr [true,true].length (aA ai [true,true])),(4, .arr (List.replicate 2 (false:Bool)).length (aA ai (List.replicate 2 (false:Bool)))),(5, .arr (List.replicate 4 (false:Bool)).length (aA ai (List.replicate 4 (false:Bool)))),(6, .arr (List.replicate 4 (false:Bool)).length (aA ai (List.replicate 4 (false:Bool))))],fr:=[(0,21),(1,22),(2,23),(3,24),(4,25),(5,26),(6,27),(8,28)]} [.pf ⟨[true,true,false].length=3,rfl⟩, .pf ⟨aI 3 1 (nN 1 [(.bool true),(.bool true),(.bool false)]) (aA ai [true,true,false]),(by intro i hi j hj;match i,j,hi,hj with|0,0,_,_=>rfl|1,0,_,_=>rfl|2,0,_,_=>rfl)⟩,0, .e ((3:Int)),1,2, .pf ⟨(List.replicate 3 (false:Bool)).length=3,List.length_replicate⟩, .pf ⟨aI 3 1 (fun _ j=>[(.bool false)].getD j .nilp) (aA ai (List.replicate 3 (false:Bool))),oh _ _ _ _ _ (fun j hj=>(match j,hj with|0,_=>rfl))⟩,0, .e ((3:Int)),1,2, .pf ⟨(List.replicate 3 (false:Bool)).length=3,List.length_replicate⟩, .pf ⟨aI 3 1 (fun _ j=>[(.bool false)].getD j .nilp) (aA ai (List.replicate 3 (false:Bool))),oh _ _ _ _ _ (fun j hj=>(match j,hj with|0,_=>rfl))⟩, .pf ⟨[true,true].length=2,rfl⟩, .pf ⟨aI 2 1 (nN 1 [(.bool true),(.bool true)]) (aA ai [true,true]),(by intro i hi j hj;match i,j,hi,hj with|0,0,_,_=>rfl|1,0,_,_=>rfl)⟩,3, .e ((2:Int)),4,5, .pf ⟨(List.replicate 2 (false:Bool)).length=2,List.length_replicate⟩, .pf ⟨aI 2 1 (fun _ j=>[(.bool false)].getD j .nilp) (aA ai (List.replicate 2 (false:Bool))),oh _ _ _ _ _ (fun j hj=>(match j,hj with|0,_=>rfl))⟩,6, .e ((4:Int)),7,8, .pf ⟨(List.replicate 4 (false:Bool)).length=4,List.length_replicate⟩, .pf ⟨aI 4 1 (fun _ j=>[(.bool false)].getD j .nilp) (aA ai (List.replicate 4 (false:Bool))),oh _ _ _ _ _ (fun j hj=>(match j,hj with|0,_=>rfl))⟩,6, .e ((4:Int)),7,8, .pf ⟨(List.replicate 4 (false:Bool)).length=4,List.length_replicate⟩, .pf ⟨aI 4 1 (fun _ j=>[(.bool false)].getD j .nilp) (aA ai (List.replicate 4 (false:Bool))),oh _ _ _ _ _ (fun j hj=>(match j,hj with|0,_=>rfl))⟩]<| .rg {an:=[(3, .frz [(⟨3,0⟩:Part)].length (aA Part.cell [(⟨3,0⟩:Part)])),(6, .frz [(⟨3,1⟩:Part)].length (aA Part.cell [(⟨3,1⟩:Part)])),(8, .arr [(⟨[(⟨3,0⟩:Part)],2,0,10,2,([]:List Int)⟩:eP),(⟨[(⟨3,1⟩:Part)],3,0,10,2,([]:List Int)⟩:eP)].length (nN 6 [U8,(.int .i64 2),(.int .i64 0),(.int .i64 10),(.int .i64 2),nS,TB,(.int .i64 3),(.int .i64 0),(.int .i64 10),(.int .i64 2),nS]))],fr:=[(8,31)],fz:=[17,18,19,21,22,23,24,25,26,27,31]} [.pf ⟨[(⟨3,0⟩:Part)].length=1,rfl⟩, .pf ⟨aI 1 2 (nN 2 [(.int .i64 3),(.int .i64 0)]) (aA Part.cell [(⟨3,0⟩:Part)]),(by intro i hi j hj;match i,j,hi,hj with|0,0,_,_=>rfl|0,1,_,_=>rfl)⟩, .pf ⟨[(⟨3,1⟩:Part)].length=1,rfl⟩, .pf ⟨aI 1 2 (nN 2 [(.int .i64 3),(.int .i64 1)]) (aA Part.cell [(⟨3,1⟩:Part)]),(by intro i hi j hj;match i,j,hi,hj with|0,0,_,_=>rfl|0,1,_,_=>rfl)⟩, .pf ⟨[(⟨[(⟨3,0⟩:Part)],2,0,10,2,([]:List Int)⟩:eP),(⟨[(⟨3,1⟩:Part)],3,0,10,2,([]:List Int)⟩:eP)].length=2,rfl⟩, .pf ⟨aI 2 6 (nN 6 [U8,(.int .i64 2),(.int .i64 0),(.int .i64 10),(.int .i64 2),nS,TB,(.int .i64 3),(.int .i64 0),(.int .i64 10),(.int .i64 2),nS]) (nN 6 [U8,(.int .i64 2),(.int .i64 0),(.int .i64 10),(.int .i64 2),nS,TB,(.int .i64 3),(.int .i64 0),(.int .i64 10),(.int .i64 2),nS]),iB _ _ _⟩]<| .im (.uh 16 (some (.cells 65 [(cI 4),(.d X7),(.d (aS (some true) 6 Link.cell [r_,u0,u1])),(.d (aS (some true) 4 aN.cell [(⟨(⟨2,3⟩:ay),100,2⟩:aN)])),(.d (aS (some true) 1 ai [true,true,false])),(.d Tn),(.d Tn),(.d (aS (some true) 1 ai [true,true])),(.d (aS (some true) 1 ai (List.replicate 2 (false:Bool)))),(.d T9),(.d T9),(.d nS),(.d (.sl (some true) 6 [(⟨[(⟨3,0⟩:Part)],2,0,10,2,([]:List Int)⟩:eP),(⟨[(⟨3,1⟩:Part)],3,0,10,2,([]:List Int)⟩:eP)].length (nN 6 [U8,(.int .i64 2),(.int .i64 0),(.int .i64 10),(.int .i64 2),nS,TB,(.int .i64 3),(.int .i64 0),(.int .i64 10),(.int .i64 2),nS]))),(cI 10),(cB false)])) (some (.cells 65 [(cI 4),(.d X7),(.d (aS (some true) 6 Link.cell [r_,u0,u1])),(.d (aS (some true) 4 aN.cell [(⟨(⟨2,3⟩:ay),100,2⟩:aN)])),(.d (aS (some true) 1 ai [true,true,false])),(.d Tn),(.d Tn),(.d (aS (some true) 1 ai [true,true])),(.d (aS (some true) 1 ai (List.replicate 2 (false:Bool)))),(.d T9),(.d T9),(.d nS),(.d (aS (some true) 6 eP.cell [(⟨[(⟨3,0⟩:Part)],2,0,10,2,([]:List Int)⟩:eP),(⟨[(⟨3,1⟩:Part)],3,0,10,2,([]:List Int)⟩:eP)])),(cI 10),(cB false)])) (nQ ⟨oo.refl _,oo.refl _,oo.refl _,oo.refl _,oo.refl _,oo.refl _,oo.refl _,oo.refl _,oo.refl _,oo.refl _,oo.refl _,oo.refl _,oo.d (pK.sl (.inr rfl) (by intro i hi j hj;match i,j,hi,hj with|0,0,_,_=>exact pK.yw|0,1,_,_=>exact .refl _|0,2,_,_=>exact .refl _|0,3,_,_=>exact .refl _|0,4,_,_=>exact .refl _|0,5,_,_=>exact pK.nil'|1,0,_,_=>exact pK.yw|1,1,_,_=>exact .refl _|1,2,_,_=>exact .refl _|1,3,_,_=>exact .refl _|1,4,_,_=>exact .refl _|1,5,_,_=>exact pK.nil')),oo.refl _,oo.refl _,trivial⟩))<| .fz [16]<| .e (⟨(⟨4,[(⟨0,1,500,1,20⟩:Source),(⟨1,1,500,1,20⟩:Source)],[r_,u0,u1],[(⟨(⟨2,3⟩:ay),100,2⟩:aN)]⟩:aD),(⟨[true,true,false],(List.replicate 3 (false:Bool)),(List.replicate 3 (false:Bool)),[true,true],(List.replicate 2 (false:Bool)),(List.replicate 4 (false:Bool)),(List.replicate 4 (false:Bool))⟩:State),([]:List Transfer),[(⟨[(⟨3,0⟩:Part)],2,0,10,2,([]:List Int)⟩:eP),(⟨[(⟨3,1⟩:Part)],3,0,10,2,([]:List Int)⟩:eP)],10,false⟩:xH))
noncomputable def Ao:fA:=⟨[31],F6 ([1,1,1,1,0,1,0,0,1,0,0,1,0,1,0]++[0]) (kr Tryz.f27),F6 ([1,1,1,1,0,1,0,0,1,0,0,1,0,1,0]++[1]) (kr Tryz.f27),53,[]⟩
section
variable (u1:Int) (u2:Bool) (o_:(List (Int × Bool)))
abbrev VN:Nat × Option Ob:=(0,some (.loop Ao 0 [(5,(vP 1 0)),(7,(vP 2 0)),(8,(vP 3 0))]))
abbrev Y0:List (Nat × Option Ob):=[VN,OX,(OH u1),(3,some (.cells 4 [(cB u2)])),(OC o_)]
end
theorem Bf (u0:Int) (o_:(List (Int × Bool))) (u1:Int) (u2:Bool):PG Tryz.prog 0 [(sI u0)] (Y0 u1 u2 o_) (fun _=>vB true) (fun r=>[VN,OX,(OH u1),(3,some (.cells 4 [(cB r)])),(OC o_)]) (xC u0 o_ u1 u2):=
  WE tT mX Ao ⟨[5,7,8],[0,1,2,3,4],fun _=>[(9,(vI u0))],fun _=>[]⟩ (.r<| .e ())
  (.cg 4 [(u2,true)] dm fun r_=> .a1 ((gB [(u2,true)]=true→(0:Int)≤u0∧u0<((5:Nat):Int)))<| .rg {an:=[(6, .vals (Gb r_ u0)),(8, .look (Sz u1 o_ r_ u0).isSome (Uu u1 o_ r_ u0))]} [1,0, .dv 0 ⟨gB [(u2,true)]=true→(0:Int)≤u0∧u0<((5:Nat):Int),gB [(u2,true)]=true→u0.toNat*1+1≤(xI r_).length,fun ax hq=>IU (n:=5) (sz:=1) (Nat.le_refl _) (ax hq)⟩, .dv 0 ⟨gB [(u2,true)]=true→(0:Int)≤u0∧u0<((5:Nat):Int),gB [(u2,true)]=true→((xI r_).drop (u0.toNat*1)).take 1=(Gb r_ u0).map .d,fun ax hq=>JD (n:=5) (sz:=1) (g:=fun q=>[(.d (.int .u8 (at' [r_.e0,r_.e1,r_.e2,r_.e3,r_.e4] q)))]) (by intro q hq;match q,hq with|0,_=>rfl|1,_=>rfl|2,_=>rfl|3,_=>rfl|4,_=>rfl) (ax hq)⟩, .pf ⟨kD [some .u8] 1 1 o_.length (uo (aF .u8) o_) (vk ai o_) (XU u1 r_ u0) [(.d (.bool false))] (Sz u1 o_ r_ u0).isSome (Uu u1 o_ r_ u0),ja (fun _=>rfl) (fun _ _=>rfl) o_ (UY u1 r_ u0) false rfl rfl rfl⟩]<| .e (Yh u1 o_ u2 r_ u0))
theorem wG (x1:Int) (o_:(List (Int × Bool))) (u0:Int) (u1:Bool):dJ Tryz.prog 173 (R4 x1) (Y0 u0 u1 o_) (fun r=>(.eT [])) (fun r=>[VN,OX,(OH u0),(3,some (.cells 4 [(cB r)])),(OC o_)]) (qp x1 o_ u0 u1):=
  dY tT mX Tryz.func173 (
  .r<| .lp (σ:=(Bool × Int)) (β:=Bool) (u1,0) [] [] ⟨[0,1],[0,1,2,4],fun(o0,t4)=>[(4,(vI t4))],fun(o0,t4)=>[(3,some (.cells 4 [(cB o0)]))]⟩ ⟨[],[0,1,2,4],fun o01=>[],fun o01=>[(3,some (.cells 4 [(cB o01)]))]⟩
  (fun(o0,t4)=> .r<| .it (.r<| .cl 2 (gy x1 t4) fun r_=> .fk r_ (.cy 6 (Bf t4 o_ u0 o0) fun u2=> .rg {ov:=[(3,true,1)]} [2, .k 0]<| .f<| .r<| .e (.next (u2,(k8 t4))))
  (.rg {ov:=[(3,false,0)],sk:=[4,5,6,7]} [1]<| .f<| .r<| .e (.next (o0,(k8 t4)))))
  (.e (.done (.brk o0))))
  (fun o01=> .e o01))
noncomputable def kV:fA:=⟨[7],F6 ([1,0,1,0]++[0]) (kr Tryz.f174),F6 ([1,0,1,0]++[1]) (kr Tryz.f174),13,[]⟩
section
variable (o_:(List Int))
abbrev VJ:Nat × Option Ob:=(0,some (.loop kV 0 [(2,(vP 1 0))]))
abbrev YI:List (Nat × Option Ob):=[VJ,(1,some (.cells 39 [(.own 2 false o_.length)])),(2,some (zK o_))]
end
theorem rX (x7:Int) (o_:(List Int)):PG Tryz.prog 0 [(sI x7)] (YI o_) (fun _=>vB true) (fun r=>[VJ,(1,some (.cells 39 [(.own 3 false r.length)])),(2,none),(3,some (bJ 3 1 (aF .i64) r))]) (nY x7 o_):=
  WE tT mX kV ⟨[2],[0,1,2],fun _=>[(5,(vI x7))],fun _=>[]⟩ (.r<| .e ())
  (.a2 ((o_.length+[x7].length)*8≤140737488355328) (o_.length+[x7].length≤4611686018427387904)<| .rg {an:=[(2, .arr [x7].length (aA (aF .i64) [x7])),(3, .arr (o_++[x7]).length (MV o_ x7))],fr:=[(2,5),(3,6)]} [.pf ⟨[x7].length=1,rfl⟩, .pf ⟨aI 1 1 (nN 1 [(.int .i64 x7)]) (aA (aF .i64) [x7]),(by intro i hi j hj;match i,j,hi,hj with|0,0,_,_=>rfl)⟩, .e (o_.length),0,1, .pf ⟨(o_++[x7]).length=o_.length+[x7].length,List.length_append⟩, .pf ⟨aI (o_.length+[x7].length) 1 (WI o_ x7) (MV o_ x7),dG _ _ _ _⟩]<| .en (o_++[x7]) [] [(6,3)])
theorem vZ (x1:Int) (o_:(List Int)):dJ Tryz.prog 173 (R4 x1) (YI o_) (fun r=>(.eT [])) (fun r=>[VJ,(1,some (.cells 39 [(.own 3 false r.length)])),(2,none),(3,some (bJ 3 1 (aF .i64) r))]) (qm x1 o_):=
  dY tT mX Tryz.func173 (
  .r<| .im (.re 1 0 2 7)<| .lp (σ:=((List Int) × Int)) (β:=(List Int)) (o_,0) [] [(7,6)] ⟨[0,1],[0],fun(o0,t4)=>[(4,(vI t4))],fun(o0,t4)=>[(1,some (.cells 39 [(.own 6 false o0.length)])),(2,none),(6,some (zK o0))]⟩ ⟨[],[0],fun o01=>[],fun o01=>[(1,some (.cells 39 [(.own 6 false o01.length)])),(2,none),(6,some (bJ 3 1 (aF .i64) o01))]⟩
  (fun(o0,t4)=> .r<| .it (.r<| .cl 2 (gy x1 t4) fun r_=> .fk r_ (.cy 6 (Z9 [(2,6),(3,7)] (rX t4 o0)) fun u0=> .rg {ov:=[(3,true,1)]} [2, .k 0]<| .f<| .r<| .en (.next (u0,(k8 t4))) [] [(7,6)])
  (.rg {ov:=[(3,false,0)],sk:=[4,5,6,7]} [1]<| .f<| .r<| .e (.next (o0,(k8 t4)))))
  (.e (.done (.brk o0))))
  (fun o01=> .en o01 [] [(6,3)]))
abbrev VA:Nat × Option Ob:=(6,some (.loop kV 0 [(2,(vP 4 0))]))
abbrev XW:List (Nat × Option Ob):=[VA,(4,some (.cells 39 [(.own 5 false 0)])),(5,some (.arr 3 1 0 (aA (aF .i64) ([]:List Int))))]
theorem xM (u0:Int):dJ Tryz.prog 174 [(sD nS),(sD (.fn 173 1 (qA [(zq [(.int .u8 u0)] 0)])))] [] (fun r=>(vD (aS none 1 (aF .i64) r))) (fun _=>[]) (sG u0):=
  dY tT mX Tryz.func174 (
  .rg {fr:=[(0,4)]} []<| .r<| .im (.BS 4 0 5 3 1 (aA (aF .i64) ([]:List Int)))<| .cl 0 ⟨fun{r_} hr_=>((Fn.Vg (args:=[(.one (.yl 6)),(sD (zq [(.int .u8 u0)] 0))]) (args':=[(.one (.yl 6)),(sD (zq [(.int .u8 u0)] 0))]) (hin:=[VA,(4,some (.cells 39 [(.own 5 false (([]:List Int).length))])),(5,some (bJ 3 1 (aF .i64) ([]:List Int)))]) (hin':=XW) (Fn.yL [(0,6),(1,4),(2,5),(3,7)] (vZ u0 ([]:List Int) hr_) (by kernel_rfl) (by kernel_rfl) (by kernel_rfl) (by kernel_rfl)) ⟨tK.refl _,tK.refl _,trivial⟩ ⟨rfl, .refl _,⟨rfl,nQ ⟨oo.of (congrArg (CV.own _ _) (by simp only [List.length_set,List.length_append,List.length_cons,List.length_nil,List.length_replicate,List.length_drop,eX])),trivial⟩,⟨rfl,Bn (by simp only [List.length_set,List.length_append,List.length_cons,List.length_nil,List.length_replicate,List.length_drop,eX]),trivial⟩⟩⟩):Fn Tryz.prog 173 [(.one (.yl 6)),(sD (zq [(.int .u8 u0)] 0))] XW (.eT []) [VA,(4,some (.cells 39 [(.own 7 false r_.length)])),(5,none),(7,some (zK r_))])⟩ fun r_=> .rf 6 [2] [] none 0 []<| .rg {fz:=[7]} []<| .e r_)
theorem zN (u0:Int):dJ Tryz.prog 95 [(sD (.fn 173 1 (qA [(zq [(.int .u8 u0)] 0)])))] [] (fun r=>(vD (aS none 1 (aF .i64) r))) (fun _=>[]) (vN u0):=
  dY tT mX Tryz.func95 (
  .r<| .cl 1 (xM u0) fun r_=> .r<| .e r_)
theorem yt (x:Int):dJ Tryz.prog 243 [(sI x)] [] (fun r=>(vB r)) (fun _=>[]) (tZ x):=
  dY tT mX Tryz.func243 (
  .r<| .r<| .e (!decide (x=x)))
theorem CU (x:Int) (y:Int):dJ Tryz.prog 177 [(sI x),(sI y)] [] (fun r=>(vI r)) (fun _=>[]) (qa x y):=
  dY tT mX Tryz.func177 (
  .r<| .cl 1 (yt x) fun r_=> .r<| .cl 1 (yt y) fun u0=> .r<| .r<| .it (.r<| .it (.r<| .e 0)
  (.r<| .e (-1)))
  (.r<| .it (.r<| .e 1)
  (.r<| .it (.r<| .e (-1))
  (.r<| .it (.r<| .e 1)
  (.r<| .e 0)))))
theorem zU (s1:(List Int)) (s2:(List Int)):dJ Tryz.prog 98 (Ul s1 s2) [] (fun r=>(vI r)) (fun _=>[]) (pW s1 s2):=
  dY tT mX Tryz.func98 (
  .r<| .r<| .lp (σ:=Int) (β:=Unit) (0) [] [] ⟨[0,1,9,10],[],fun u0=>[(11,(vI u0))],fun u0=>[]⟩ ⟨[0,1],[],fun _=>[],fun _=>[]⟩
  (fun u0=> .r<| .it (.a1 (Av s1 u0)<| .r<| .r<| .it (.r<| .e (.done (.ret 1)))
  (.a1 (Av s2 u0)<| .r<| .cl 2 (CU (at' s1 u0.toNat) (at' s2 u0.toNat)) fun r_=> .r<| .r<| .it (.r<| .e (.done (.ret r_)))
  (.r<| .e (.next (k8 u0)))))
  (.e (.done (.brk ()))))
  (fun _=> .r<| .it (.r<| .e (-1))
  (.r<| .e 0)))
theorem DW (a:(List Int)) (b:(List Int)):dJ Tryz.prog 97 (Ul a b) [] (fun r=>(vI r)) (fun _=>[]) (xq a b):=
  dY tT mX Tryz.func97 (
  .r<| .r<| .it (.r<| .e (IntKind.wrap .i64 ((a.length:Int) - (b.length:Int))))
  (.cl 2 (zU a b) fun r_=> .r<| .e r_))
theorem vY (x y:(List Int)) (hx:x.length≤1000000) (hy:y.length≤1000000):xq x y=some (cmpL x y):=by
 have hc: ∀a b:Int,qa a b=some (if a<b then -1 else if b<a then 1 else 0):=by
  intro a b
  unfold qa tZ
  by_cases h:a<b<;>by_cases g:b<a<;>simp [h,g]
 have wr1: ∀x:Int, -9223372036854775808≤x∧x≤9223372036854775807→IntKind.wrap .i64 x=x:=fun x h=>by rw [IntKind.wrap_i64];omega
 unfold xq cmpL
 by_cases h:x.length=y.length
 ·rw [decide_eq_true (by omega),Bool.not_true,cond_false,if_pos h]
  unfold pW
  have key:=JP h (body:=gU x y) (fun i hi=>by
   unfold gU
   simp only [Int.toNat_natCast]
   rw [decide_eq_true (by omega),cond_true,aj (by omega),decide_eq_false (by omega),cond_false,aj (by omega),hc,Option.bind_some,wr1 _ (by omega)]
   by_cases h1:at' x i<at' y i
   ·rw [if_pos h1,if_pos h1];rfl
   ·rw [if_neg h1,if_neg h1]
    by_cases h2:at' y i<at' x i
    ·rw [if_pos h2,if_pos h2];rfl
    ·rw [if_neg h2,if_neg h2];rfl) (by
   unfold gU
   rw [decide_eq_false (by omega),cond_false]) x.length 0 FUEL (by omega) (by unfold FUEL;omega)
  rw [List.drop_zero,List.drop_zero]at key
  rw [show aC (gU x y) FUEL 0=_ from key]
  by_cases h0:sV x y=0
  ·rw [if_pos h0,Option.bind_some,h0]
   simp only
   rw [decide_eq_false (by omega),cond_false];rfl
  ·rw [if_neg h0];rfl
 ·rw [decide_eq_false (by omega),Bool.not_false,cond_true,if_neg h,wr1 _ (by omega)]
theorem w9 (s:(List (List Int))) {r:(List (List Int))} (h:dI s=some r):Fn Tryz.prog 96 [(.one (.own 0 false s.length)),(sD (.fn 97 0 (qA [])))] [(0,some (.arr 39 1 s.length (aA (Az 1 (aF .i64)) s)))] (.eT []) [(0,some (.arr 39 1 r.length (aA (Az 1 (aF .i64)) r)))]:=by
 unfold dI at h
 cases hb:(decide (s.length<4611686018427387904) && (decide s.Nodup && s.all fun x=>decide (x.length≤1000000)))with
 |false=>rw [hb]at h;cases h
 |true=>
  rw [hb]at h
  simp only [Bool.and_eq_true,decide_eq_true_iff,List.all_eq_true]at hb
  exact TL PD cmpL Ra QW s (fun x hx y hy=>DW x y (vY x y (hb.2.2 x hx) (hb.2.2 y hy))) hb.2.1 (enters_of Tryz.func97 (by kernel_rfl) rfl) 96 rfl ⟨_,Tryz.func96,rfl,rfl⟩ hb.1 (Option.some.inj h)
theorem BB (a:(List Int)) (b:(List Int)):dJ Tryz.prog 102 (Ul a b) [] (fun r=>(vB r)) (fun _=>[]) (yu a b):=
  dY tT mX Tryz.func102 (
  .r<| .cl 2 (tY a b) fun r_=> .r<| .e r_)
theorem tC (a:(List (List Int))) (b:(List (List Int))):dJ Tryz.prog 29 [(sD (aS none 1 (Az 1 (aF .i64)) a)),(sD (aS none 1 (Az 1 (aF .i64)) b))] [] (fun r=>(vB r)) (fun _=>[]) (qF a b):=
  dY tT mX Tryz.func29 (
  .r<| .r<| .it (.r<| .e false)
  (.r<| .lp (σ:=Int) (β:=Unit) (0) [] [] ⟨[0,1],[],fun i=>[(5,(vI i))],fun i=>[]⟩ ⟨[],[],fun _=>[],fun _=>[]⟩
  (fun i=> .r<| .it (.cl 8 (BB (at' a i.toNat) (at' b i.toNat)) fun r_=> .a2 ((0:Int)≤i∧i<(a.length:Int)) ((0:Int)≤i∧i<(b.length:Int))<| .rg {} [0,1,2]<| .it (.r<| .e (.done (.ret false)))
  (.r<| .e (.next (k8 i))))
  (.e (.done (.brk ()))))
  (fun _=> .r<| .e true)))
theorem wN (y:ah) (u1:(List Int)) (h_:Int):dJ Tryz.prog 112 (XK y u1 h_) [] (fun r=>(vD (.int .u8 r))) (fun _=>[]) (jG y u1 h_):=
  dY tT mX Tryz.func112 (
  .rg {fr:=[(0,1)],fz:=[1]} []<| .r<| .r<| .lp (σ:=(Int × Int)) (β:=Int) (0,0) [] [] ⟨[2,3,10,11],[],fun(s_,u0)=>[(7,(vD (.int .u8 s_))),(12,(vI u0))],fun(s_,u0)=>[]⟩ ⟨[],[],fun u2=>[(7,(vD (.int .u8 u2)))],fun u2=>[]⟩
  (fun(s_,u0)=> .r<| .it (.a1 (Av u1 u0)<| .r<| .a1 ((gB [((decide ((at' u1 u0.toNat)≤h_)),true)]=true→(0:Int)≤u0∧u0<(y.jobs.length:Int)))<| .r<| .it (.cl 1 dm fun r_=> .a1 ((0:Int)≤u0∧u0<((5:Nat):Int))<| .rg {an:=[(3, .vals (Gb r_ u0))]} [1,0, .dv 0 ⟨(0:Int)≤u0∧u0<((5:Nat):Int),u0.toNat*1+1≤(xI r_).length,fun ax=>IU (n:=5) (sz:=1) (Nat.le_refl _) ax⟩, .dv 0 ⟨(0:Int)≤u0∧u0<((5:Nat):Int),((xI r_).drop (u0.toNat*1)).take 1=(Gb r_ u0).map .d,fun ax=>JD (n:=5) (sz:=1) (g:=fun q=>[(.d (.int .u8 (at' [r_.e0,r_.e1,r_.e2,r_.e3,r_.e4] q)))]) (by intro q hq;match q,hq with|0,_=>rfl|1,_=>rfl|2,_=>rfl|3,_=>rfl|4,_=>rfl) ax⟩]<| .r<| .e (.next ((IntKind.wrap .u8 (((BitVec.ofInt (IntKind.bits .u8) s_|||BitVec.ofInt (IntKind.bits .u8) (OV r_ u0)).toNat:Int))),(k8 u0))))
  (.r<| .e (.next (s_,(k8 u0)))))
  (.e (.done (.brk s_))))
  (fun u2=> .r<| .e u2))
section
variable (u3:Int) (u0:(List (Int × Bool)))
abbrev Px:List CV:=[(cB ((aV bP u3 u0).getD false))]
end
theorem wz (y:ah) (u1:(List Int)):dJ Tryz.prog 35 (Q0 y u1) [] (fun r=>(.eT [(sI r.1),(sI r.2)])) (fun _=>[]) (kM y u1):=
  dY tT mX Tryz.func35 (
  .rg {fr:=[(0,2)],fz:=[2]} []<| .cl 1 (kJ y) fun r_=> .r<| .r<| .it (.r<| .e (0,r_))
  (.r<| .it (.r<| .e (0,1))
  (.r<| .lp (σ:=Int) (β:=Unit) (0) [] [] ⟨[1,2,22],[],fun u4=>[(23,(vI u4))],fun u4=>[]⟩ ⟨[1,2],[],fun _=>[],fun _=>[]⟩
  (fun u4=> .r<| .it (.r<| .cl 3 (pF y u1 u4) fun u6=> .r<| .it (.r<| .e (.done (.ret (0,60))))
  (.r<| .e (.next (k8 u4))))
  (.e (.done (.brk ()))))
  (fun _=> .cl 1 (lK [(0,3)] (qN y)) fun u0=> .r<| .cl 2 (nL y u1) fun u7=> .r<| .lp (σ:=Int) (β:=Unit) (0) [] [] ⟨[1,2,8,36],[3],fun u2=>[(37,(vI u2))],fun u2=>[]⟩ ⟨[1,2],[],fun _=>[],fun _=>[]⟩
  (fun u2=> .r<| .it (.r<| .cl 4 (wN y u1 u2) fun u3=> .rg {an:=[(5, .look (aV bP u3 u0).isSome (Px u3 u0))]} [0, .pf ⟨kD [some .u8] 1 1 u0.length (uo (aF .u8) u0) (vk ai u0) [(.int .u8 u3)] [(.d (.bool false))] (aV bP u3 u0).isSome (Px u3 u0),ja (fun _=>rfl) (fun _ _=>rfl) u0 u3 false rfl rfl rfl⟩]<| .it (.r<| .e (.done (.ret (u2,120))))
  (.r<| .e (.next (k8 u2))))
  (.e (.done (.brk ()))))
  (fun _=> .cl 2 (nL y u1) fun u5=> .r<| .e (u5,0))))))
theorem Aq (y:ah) (u2:(List Int)):dJ Tryz.prog 37 (Q0 y u2) [] (fun r=>(.eT [(sB r.1),(sI r.2)])) (fun _=>[]) (qI y u2):=
  dY tT mX Tryz.func37 (
  .rg {fr:=[(0,2)],fz:=[2]} []<| .cl 1 (kJ y) fun r_=> .r<| .r<| .it (.r<| .e (false,r_))
  (.r<| .r<| .lp (σ:=(Int × Int)) (β:=Int) (0,0) [] [] ⟨[2,15,16],[],fun(s_,u1)=>[(7,(vD (.int .u8 s_))),(17,(vI u1))],fun(s_,u1)=>[]⟩ ⟨[2],[],fun u3=>[(7,(vD (.int .u8 u3)))],fun u3=>[]⟩
  (fun(s_,u1)=> .r<| .it (.a1 (Av u2 u1)<| .r<| .cg 12 [((bif (decide ((at' u2 u1.toNat)<0))then true else(decide ((y.jobs.length:Int)≤(at' u2 u1.toNat)))),false)] (gy s_ (at' u2 u1.toNat)) fun u5=> .r<| .it (.r<| .e (.done (.ret (false,1))))
  (.cl 1 dm fun u0=> .a1 ((0:Int)≤(at' u2 u1.toNat)∧(at' u2 u1.toNat)<((5:Nat):Int))<| .rg {an:=[(3, .vals [(.int .u8 (at' [u0.e0,u0.e1,u0.e2,u0.e3,u0.e4] ((at' u2 u1.toNat).toNat)))])]} [1,0, .dv 0 ⟨(0:Int)≤(at' u2 u1.toNat)∧(at' u2 u1.toNat)<((5:Nat):Int),(at' u2 u1.toNat).toNat*1+1≤(xI u0).length,fun ax=>IU (n:=5) (sz:=1) (Nat.le_refl _) ax⟩, .dv 0 ⟨(0:Int)≤(at' u2 u1.toNat)∧(at' u2 u1.toNat)<((5:Nat):Int),((xI u0).drop ((at' u2 u1.toNat).toNat*1)).take 1=[(.int .u8 (at' [u0.e0,u0.e1,u0.e2,u0.e3,u0.e4] ((at' u2 u1.toNat).toNat)))].map .d,fun ax=>JD (n:=5) (sz:=1) (g:=fun q=>[(.d (.int .u8 (at' [u0.e0,u0.e1,u0.e2,u0.e3,u0.e4] q)))]) (by intro q hq;match q,hq with|0,_=>rfl|1,_=>rfl|2,_=>rfl|3,_=>rfl|4,_=>rfl) ax⟩]<| .r<| .e (.next ((IntKind.wrap .u8 (((BitVec.ofInt (IntKind.bits .u8) s_|||BitVec.ofInt (IntKind.bits .u8) (at' [u0.e0,u0.e1,u0.e2,u0.e3,u0.e4] ((at' u2 u1.toNat).toNat))).toNat:Int))),(k8 u1)))))
  (.e (.done (.brk s_))))
  (fun u3=> .cl 1 (lK [(0,3)] (qN y)) fun u4=> .rg {an:=[(3, .look (aV bP u3 u4).isSome (Px u3 u4))]} [0, .pf ⟨kD [some .u8] 1 1 u4.length (uo (aF .u8) u4) (vk ai u4) [(.int .u8 u3)] [(.d (.bool false))] (aV bP u3 u4).isSome (Px u3 u4),ja (fun _=>rfl) (fun _ _=>rfl) u4 u3 false rfl rfl rfl⟩]<| .e (((aV bP u3 u4).getD false),0))))
section
variable (y:xH) (r_:aD) (u0:State) (u1:(List Transfer)) (i:Int) (u5:(List Transfer)) (u2:(List eP)) (u3:(List Part)) (i1:Int) (u4:(List Int))
abbrev YO:List CV:=[(cI y.plant.buses),(.d (aS none 5 Source.cell y.plant.sources)),(.d (aS none 6 Link.cell y.plant.links)),(.d (aS none 4 aN.cell y.plant.racks)),(.d (aS none 1 ai y.state.closed)),(.d (aS none 1 ai y.state.locked)),(.d (aS none 1 ai y.state.badLink)),(.d (aS none 1 ai y.state.on_)),(.d (aS none 1 ai y.state.badSource)),(.d (aS none 1 ai y.state.earthed)),(.d (aS none 1 ai y.state.badBus)),(.d (aS none 3 Transfer.cell y.transfers)),(.d (aS none 6 eP.cell y.jobs)),(cI y.people),(cB y.redundant)]
abbrev Xw:List (Nat × Option Ob):=[(53,some (.cells 73 [(cI r_.buses),(.own 41 false r_.sources.length),(.own 42 false r_.links.length),(.own 43 false r_.racks.length),(.own 45 false u0.closed.length),(.own 46 false u0.locked.length),(.own 47 false u0.badLink.length),(.own 48 false u0.on_.length),(.own 49 false u0.badSource.length),(.own 50 false u0.earthed.length),(.own 51 false u0.badBus.length),(.own 55 false u1.length),(.d nS),(cI y.people),(cB y.redundant)])),(55,some (bJ 190 3 Transfer.cell u1))]
abbrev yS:=(at' y.transfers i.toNat)
abbrev Zl:List (Nat × Option Ob):=[(53,some (.cells 73 [(cI r_.buses),(.own 41 false r_.sources.length),(.own 42 false r_.links.length),(.own 43 false r_.racks.length),(.own 45 false u0.closed.length),(.own 46 false u0.locked.length),(.own 47 false u0.badLink.length),(.own 48 false u0.on_.length),(.own 49 false u0.badSource.length),(.own 50 false u0.earthed.length),(.own 51 false u0.badBus.length),(.own 55 false u5.length),(.own 66 false u2.length),(cI y.people),(cB y.redundant)])),(66,some (bJ 185 6 eP.cell u2))]
abbrev LX:=(⟨u3,(at' y.jobs i1.toNat).hours,(at' y.jobs i1.toNat).from_,(at' y.jobs i1.toNat).to_,(at' y.jobs i1.toNat).people,u4⟩:eP)
abbrev Zb:=(u2.length+[(LX y u3 i1 u4)].length)
abbrev WN:=(aA eP.cell [(LX y u3 i1 u4)])
abbrev Ui:=(u2++[(LX y u3 i1 u4)])
abbrev X6:=(aA eP.cell (Ui y u2 u3 i1 u4))
end
theorem o6 (y:xH):dJ Tryz.prog 25 [(.agg (YO y))] [] (fun r=>(.v (.agg [(cI r.plant.buses),(.own 0 false r.plant.sources.length),(.own 1 false r.plant.links.length),(.own 2 false r.plant.racks.length),(.own 3 false r.state.closed.length),(.own 4 false r.state.locked.length),(.own 5 false r.state.badLink.length),(.own 6 false r.state.on_.length),(.own 7 false r.state.badSource.length),(.own 8 false r.state.earthed.length),(.own 9 false r.state.badBus.length),(.own 10 false r.transfers.length),(.own 11 false r.jobs.length),(cI r.people),(cB r.redundant)]))) (fun r=>[(0,some (bJ 38 5 Source.cell r.plant.sources)),(1,some (bJ 35 6 Link.cell r.plant.links)),(2,some (bJ 147 4 aN.cell r.plant.racks)),(3,some (bJ 4 1 ai r.state.closed)),(4,some (bJ 4 1 ai r.state.locked)),(5,some (bJ 4 1 ai r.state.badLink)),(6,some (bJ 4 1 ai r.state.on_)),(7,some (bJ 4 1 ai r.state.badSource)),(8,some (bJ 4 1 ai r.state.earthed)),(9,some (bJ 4 1 ai r.state.badBus)),(10,some (bJ 190 3 Transfer.cell r.transfers)),(11,some (bJ 185 6 eP.cell r.jobs)),(12,none)]) (gX y):=
  dY tT mX Tryz.func25 (
  .rg {fr:=[(0,39),(1,40)]} []<| .cl 2 (lK [(0,41),(1,42),(2,43),(3,44)] (xK y.plant)) fun r_=> .cl 5 (lK [(0,45),(1,46),(2,47),(3,48),(4,49),(5,50),(6,51),(7,52)] (xV y.state)) fun u0=> .rg {fr:=[(11,53)]} []<| .r<| .im (.BS 53 11 62 190 3 (aA Transfer.cell ([]:List Transfer)))<| .lp (σ:=((List Transfer) × Int)) (β:=(List Transfer)) (([]:List Transfer),0) [] [(62,55)] ⟨[1,2,3],[39,40,41,42,43,45,46,47,48,49,50,51],fun(u1,i)=>[(4,(vI i))],fun(u1,i)=>(Xw y r_ u0 u1)⟩ ⟨[1,2,3],[39,40,41,42,43,45,46,47,48,49,50,51],fun u5=>[],fun u5=>(Xw y r_ u0 u5)⟩
  (fun(u1,i)=> .r<| .it (.r<| .a3 ((0:Int)≤i∧i<(y.transfers.length:Int)) ((u1.length+[(yS y i)].length)*24≤140737488355328) (u1.length+[(yS y i)].length≤4611686018427387904)<| .rg {an:=[(6, .arr [(yS y i)].length (aA Transfer.cell [(yS y i)])),(7, .arr (u1++[(yS y i)]).length (aA Transfer.cell (u1++[(yS y i)])))],fr:=[(6,60),(7,61)]} [0, .pf ⟨[(yS y i)].length=1,rfl⟩, .pf ⟨aI 1 3 (nN 3 [(.int .i64 ((yS y i).watch)),(.int .i64 ((yS y i).open_)),(.int .i64 ((yS y i).close))]) (aA Transfer.cell [(yS y i)]),(by intro i hi j hj;match i,j,hi,hj with|0,0,_,_=>rfl|0,1,_,_=>rfl|0,2,_,_=>rfl)⟩, .e (u1.length),1,2, .pf ⟨(u1++[(yS y i)]).length=u1.length+[(yS y i)].length,List.length_append⟩, .pf ⟨aI (u1.length+[(yS y i)].length) 3 (oW (aA Transfer.cell u1) u1.length (aA Transfer.cell [(yS y i)])) (aA Transfer.cell (u1++[(yS y i)])),dG _ _ _ _⟩]<| .r<| .en (.next ((u1++[(yS y i)]),(k8 i))) [] [(61,55)])
  (.e (.done (.brk u1))))
  (fun u5=> .r<| .im (.BS 53 12 79 185 6 (aA eP.cell ([]:List eP)))<| .lp (σ:=((List eP) × Int)) (β:=(List eP)) (([]:List eP),0) [] [(79,66)] ⟨[1,2,3],[39,40,41,42,43,45,46,47,48,49,50,51,55],fun(u2,i1)=>[(6,(vI i1))],fun(u2,i1)=>(Zl y r_ u0 u5 u2)⟩ ⟨[2,3],[40,41,42,43,45,46,47,48,49,50,51,55],fun u6=>[],fun u6=>(Zl y r_ u0 u5 u6)⟩
  (fun(u2,i1)=> .r<| .it (.a1 ((0:Int)≤i1∧i1<(y.jobs.length:Int))<| .rg {fr:=[(5,75)]} []<| .cl 2 (lK [(0,76)] (pG ((at' y.jobs i1.toNat).parts))) fun u3=> .r<| .cl 2 (CG ((at' y.jobs i1.toNat).after)) fun u4=> .rg {fz:=[76]} []<| .fz [75]<| .r<| .a2 ((Zb y u2 u3 i1 u4)*80≤140737488355328) (u2.length+[(LX y u3 i1 u4)].length≤4611686018427387904)<| .rg {an:=[(2, .arr [(LX y u3 i1 u4)].length (WN y u3 i1 u4)),(3, .arr (Ui y u2 u3 i1 u4).length (X6 y u2 u3 i1 u4))],fr:=[(2,77),(3,78)]} [.pf ⟨[(LX y u3 i1 u4)].length=1,rfl⟩, .pf ⟨aI 1 6 (nN 6 [(Gw u3),(.int .i64 ((at' y.jobs i1.toNat).hours)),(.int .i64 ((at' y.jobs i1.toNat).from_)),(.int .i64 ((at' y.jobs i1.toNat).to_)),(.int .i64 ((at' y.jobs i1.toNat).people)),(BI u4)]) (WN y u3 i1 u4),(by intro i hi j hj;match i,j,hi,hj with|0,0,_,_=>rfl|0,1,_,_=>rfl|0,2,_,_=>rfl|0,3,_,_=>rfl|0,4,_,_=>rfl|0,5,_,_=>rfl)⟩, .e (u2.length),0,1, .pf ⟨(Ui y u2 u3 i1 u4).length=u2.length+[(LX y u3 i1 u4)].length,List.length_append⟩, .pf ⟨aI (Zb y u2 u3 i1 u4) 6 (oW (aA eP.cell u2) u2.length (WN y u3 i1 u4)) (X6 y u2 u3 i1 u4),dG _ _ _ _⟩]<| .r<| .en (.next ((Ui y u2 u3 i1 u4),(k8 i1))) [] [(78,66)])
  (.e (.done (.brk u2))))
  (fun u6=> .r<| .en (⟨r_,u0,u5,u6,y.people,y.redundant⟩:ah) [] [(41,0),(42,1),(43,2),(45,3),(46,4),(47,5),(48,6),(49,7),(50,8),(51,9),(55,10),(66,11),(40,12)])))
section
variable (u0:nC) (u1:Int) (u2:(List (Int × Bool))) (y:ah)
abbrev Tx:=(aV bP (OV u0 u1) u2)
abbrev WO:List SV:=[(.one (.ptr 19 0)),(.one (.ptr 13 0)),(.one (.ptr 22 0)),(.one (.ptr 21 0)),(.one (.ptr 20 0)),(.one (.ptr 16 0)),(.one (.opt 18 1 0 0)),(.one (.ptr 23 0))]
abbrev Xa:Nat × Option Ob:=(13,some (Wp y))
abbrev VQ:Nat × Option Ob:=(22,some (.cells 210 [(.fn 103 0 1 (Ay [(.ptr 21 0)]))]))
abbrev VW:Nat × Option Ob:=(23,some (.cells 1 [(.fn 104 0 8 (Ay [(.ptr 19 0),(.ptr 13 0),(.ptr 22 0),(.ptr 21 0),(.ptr 20 0),(.ptr 16 0),(.opt 18 1 0 0),(.ptr 23 0)]))]))
abbrev YX:List (Nat × Option Ob):=[(19,some (.cells 39 [(.own 24 false 0)])),(Xa y),VQ,(21,some (.cells 3 [(cI 49)])),(20,some (.cells 39 [(.own 25 false 0)])),(16,some (.cells 196 [(.mp 15)])),(18,some (bJ 209 1 (aF .u8) (List.replicate 48 (0:Int)))),VW,(24,some (.arr 3 1 0 (aA (aF .i64) ([]:List Int)))),(25,some (.arr 3 1 0 (aA (aF .i64) ([]:List Int)))),(15,some (Kk u2))]
end
theorem lF (y:ah):dJ Tryz.prog 30 (SY y) [] (fun r=>(.eT [(.one (.own 0 false r.1.length)),(sI r.2)])) (fun r=>[(0,some (bJ 3 1 (aF .i64) r.1))]) (jY y):=
  dY tT mX Tryz.func30 (
  .rg {fr:=[(0,13)]} []<| .cl 1 (kJ y) fun r_=> .r<| .r<| .it (.r<| .im (.ad 2 14 3 1 (aA (aF .i64) ([]:List Int)))<| .en (([]:List Int),r_) [] [(14,0)])
  (.cl 1 (lK [(0,15)] (o9 y)) fun u2=> .rg {fr:=[(2,16)]} []<| .r<| .lp (σ:=Int) (β:=Unit) (0) [] [] ⟨[1,5,22],[13,15,16],fun u1=>[(23,(vI u1))],fun u1=>[]⟩ ⟨[1,5],[13,15,16],fun _=>[],fun _=>[]⟩
  (fun u1=> .r<| .it (.r<| .cl 1 dm fun u0=> .a1 ((0:Int)≤u1∧u1<((5:Nat):Int))<| .rg {an:=[(3, .vals (Gb u0 u1)),(4, .look (Tx u0 u1 u2).isSome [(cB ((Tx u0 u1 u2).getD false))])]} [1,0, .dv 0 ⟨(0:Int)≤u1∧u1<((5:Nat):Int),u1.toNat*1+1≤(xI u0).length,fun ax=>IU (n:=5) (sz:=1) (Nat.le_refl _) ax⟩, .dv 0 ⟨(0:Int)≤u1∧u1<((5:Nat):Int),((xI u0).drop (u1.toNat*1)).take 1=(Gb u0 u1).map .d,fun ax=>JD (n:=5) (sz:=1) (g:=fun q=>[(.d (.int .u8 (at' [u0.e0,u0.e1,u0.e2,u0.e3,u0.e4] q)))]) (by intro q hq;match q,hq with|0,_=>rfl|1,_=>rfl|2,_=>rfl|3,_=>rfl|4,_=>rfl) ax⟩, .pf ⟨kD [some .u8] 1 1 u2.length (uo (aF .u8) u2) (vk ai u2) (Gb u0 u1) [(.d (.bool false))] (Tx u0 u1 u2).isSome [(cB ((Tx u0 u1 u2).getD false))],ja (fun _=>rfl) (fun _ _=>rfl) u2 (OV u0 u1) false rfl rfl rfl⟩]<| .it (.r<| .im (.ad 2 17 3 1 (aA (aF .i64) ([]:List Int)))<| .en (.done (.ret (([]:List Int),4))) [] [(17,0)])
  (.r<| .e (.next (k8 u1))))
  (.e (.done (.brk ()))))
  (fun _=> .rg {an:=[(0, .arr (List.replicate 48 (0:Int)).length (aA (aF .u8) (List.replicate 48 (0:Int))))],fr:=[(0,18)]} [.pf ⟨(List.replicate 48 (0:Int)).length=48,List.length_replicate⟩, .pf ⟨aI 48 1 (fun i _=>(List.replicate 48 (DV.int .u8 0)).getD i .nilp) (aA (aF .u8) (List.replicate 48 (0:Int))),UD .u8 48⟩]<| .rg {fr:=[(0,19),(1,20)]} []<| .rg {fr:=[(0,21)]} []<| .rg {fr:=[(1,22)]} []<| .rg {fr:=[(0,23)]} []<| .r<| .im (.BS 19 0 24 3 1 (aA (aF .i64) ([]:List Int)))<| .im (.BS 20 0 25 3 1 (aA (aF .i64) ([]:List Int)))<| .cl 1 ⟨fun{u3} hr_3=>((Fn.Vg (args:=WO) (args':=WO) (hin:=[(19,some (.cells 39 [(.own 24 false (([]:List Int).length))])),(Xa y),VQ,(21,some (.cells 3 [(cI 49)])),(20,some (.cells 39 [(.own 25 false (([]:List Int).length))])),(16,some (.cells 196 [(.mp 15)])),(18,some (bJ 209 1 (aF .u8) (List.replicate 48 (0:Int)))),VW,(24,some (bJ 3 1 (aF .i64) ([]:List Int))),(25,some (bJ 3 1 (aF .i64) ([]:List Int))),(15,some (Kk u2))]) (hin':=(YX u2 y)) (Fn.yL [(0,19),(1,13),(2,22),(3,21),(4,20),(5,16),(6,18),(7,23),(8,24),(9,25),(10,15),(11,26),(12,27)] (vQ FUEL ([]:List Int) y 49 ([]:List Int) u2 (List.replicate 48 (0:Int)) hr_3) (by kernel_rfl) (by kernel_rfl) (by kernel_rfl) (by kernel_rfl)) ⟨tK.refl _,tK.refl _,tK.refl _,tK.refl _,tK.refl _,tK.refl _,tK.refl _,tK.refl _,trivial⟩ ⟨rfl,nQ ⟨oo.of (congrArg (CV.own _ _) (by simp only [List.length_set,List.length_append,List.length_cons,List.length_nil,List.length_replicate,List.length_drop,eX])),trivial⟩,⟨rfl, .refl _,⟨rfl, .refl _,⟨rfl, .refl _,⟨rfl,nQ ⟨oo.of (congrArg (CV.own _ _) (by simp only [List.length_set,List.length_append,List.length_cons,List.length_nil,List.length_replicate,List.length_drop,eX])),trivial⟩,⟨rfl, .refl _,⟨rfl, .refl _,⟨rfl, .refl _,⟨rfl,Bn (by simp only [List.length_set,List.length_append,List.length_cons,List.length_nil,List.length_replicate,List.length_drop,eX]),⟨rfl,Bn (by simp only [List.length_set,List.length_append,List.length_cons,List.length_nil,List.length_replicate,List.length_drop,eX]),⟨rfl, .refl _,trivial⟩⟩⟩⟩⟩⟩⟩⟩⟩⟩⟩):Fn Tryz.prog 104 WO (YX u2 y) (.eT []) [(19,some (.cells 39 [(.own 26 false u3.1.length)])),(Xa y),VQ,(21,some (.cells 3 [(cI u3.2.1)])),(20,some (.cells 39 [(.own 27 false u3.2.2.1.length)])),(16,some (.cells 196 [(.mp 15)])),(18,some (bJ 209 1 (aF .u8) u3.2.2.2.2)),VW,(24,none),(25,none),(15,some (LV 198 4 false false 1 1 (aF .u8) ai u3.2.2.2.1)),(26,some (bJ 3 1 (aF .i64) u3.1)),(27,some (bJ 3 1 (aF .i64) u3.2.2.1))])⟩ fun u3=> .rg {fz:=[21]} []<| .r<| .it (.r<| .im (.ad 2 28 3 1 (aA (aF .i64) ([]:List Int)))<| .en (([]:List Int),4) [] [(28,0)])
  (.r<| .en (u3.2.2.1,0) [] [(27,0)]))))
theorem vT (y:ah):dJ Tryz.prog 27 (SY y) [] (fun r=>(.eT [(.one (.own 0 false r.1.length)),(sI r.2)])) (fun r=>[(0,some (bJ 39 1 (Az 1 (aF .i64)) r.1))]) (lX y):=
  dY tT mX Tryz.func27 (
  .rg {fr:=[(0,28)],fz:=[28]} []<| .cl 1 (kJ y) fun r_=> .r<| .r<| .it (.r<| .im (.ad 2 29 39 1 (aA (Az 1 (aF .i64)) ([]:List (List Int))))<| .en (([]:List (List Int)),r_) [] [(29,0)])
  (.cl 1 (lK [(0,30)] (o9 y)) fun u2=> .rg {fr:=[(2,31)]} []<| .r<| .rg {fr:=[(0,32)]} []<| .im (.ad 6 57 39 1 (aA (Az 1 (aF .i64)) ([]:List (List Int))))<| .lp (σ:=((List (List Int)) × Int)) (β:=(List (List Int))) (([]:List (List Int)),1) [] [(57,36)] ⟨[1,5,7],[30,31],fun(u0,s0)=>[(6,(vO 36 false u0.length))],fun(u0,s0)=>[(32,some (SH s0)),(36,some (bJ 39 1 (Az 1 (aF .i64)) u0))]⟩ ⟨[],[],fun u3=>[(6,(vO 36 false u3.length))],fun u3=>[(36,some (bJ 39 1 (Az 1 (aF .i64)) u3))]⟩
  (fun(u0,s0)=> .a1 ((0:Int)≤(y.jobs.length:Int))<| .r<| .it (.rg {an:=[(2, .look (aV bP s0 u2).isSome (Px s0 u2))],fr:=[(4,51)]} [.pf ⟨kD [some .u8] 1 1 u2.length (uo (aF .u8) u2) (vk ai u2) [(.int .u8 s0)] [(.d (.bool false))] (aV bP s0 u2).isSome (Px s0 u2),ja (fun _=>rfl) (fun _ _=>rfl) u2 s0 false rfl rfl rfl⟩]<| .cl 1 (dW s0) fun u5=> .r<| .cl 0 (lK [(0,52),(1,31),(2,32),(3,51),(4,30)] (wG u5 u2 s0 (!((aV bP s0 u2).getD false)))) fun u7=> .rf 52 [5,7,8] [] none 0 []<| .r<| .it (.cl 2 (dW s0) fun u6=> .cl 3 (zN u6) fun u1=> .a2 ((u0.length+[u1].length)*24≤140737488355328) (u0.length+[u1].length≤4611686018427387904)<| .rg {an:=[(4, .arr [u1].length (aA (Az 1 (aF .i64)) [u1])),(5, .arr (u0++[u1]).length (aA (Az 1 (aF .i64)) (u0++[u1])))],fr:=[(4,53),(5,54)]} [3,2, .pf ⟨[u1].length=1,rfl⟩, .pf ⟨aI 1 1 (nN 1 [(BI u1)]) (aA (Az 1 (aF .i64)) [u1]),(by intro i hi j hj;match i,j,hi,hj with|0,0,_,_=>rfl)⟩, .e (u0.length),0,1, .pf ⟨(u0++[u1]).length=u0.length+[u1].length,List.length_append⟩, .pf ⟨aI (u0.length+[u1].length) 1 (oW (aA (Az 1 (aF .i64)) u0) u0.length (aA (Az 1 (aF .i64)) [u1])) (aA (Az 1 (aF .i64)) (u0++[u1])),dG _ _ _ _⟩]<| .r<| .rg {fr:=[(0,55)]} []<| .r<| .en (.next ((u0++[u1]),(IntKind.wrap .u8 (s0+1)))) [] [(55,32),(54,36)])
  (.r<| .rg {fr:=[(0,56)]} []<| .r<| .en (.next (u0,(IntKind.wrap .u8 (s0+1)))) [] [(56,32)]))
  (.e (.done (.brk u0))))
  (fun u3=> .cl 1 (lK [(0,36)] ⟨fun h=>w9 u3 h⟩) fun u4=> .r<| .a1 (u3.length=u4.length)<| .so 6 36 false u3.length u4.length 0<| .so 50 36 false u3.length u4.length 0<| .r<| .en (u4,0) [] [(36,0)])))
section
variable (u0:ah)
abbrev RY:List DV:=[(aS (some true) 1 (aF .i64) [0,1])]
abbrev XC:List (Nat × Option Ob):=[(61,some (.arr 39 1 [[0,1]].length (nN 1 RY)))]
abbrev Q7:List DV:=[(aS (some true) 1 (aF .i64) [0]),(aS (some true) 1 (aF .i64) [1])]
abbrev XI:List (Nat × Option Ob):=[(66,some (.arr 39 1 [[0],[1]].length (nN 1 Q7)))]
abbrev WR:=(u0.jobs.set 0 (⟨(at' u0.jobs 0).parts,(at' u0.jobs 0).hours,(at' u0.jobs 0).from_,4,(at' u0.jobs 0).people,(at' u0.jobs 0).after⟩:eP))
abbrev Wx:=(aA eP.cell (WR u0))
abbrev PU:=(at' (WR u0) 1)
abbrev UB:=((WR u0).set 1 (⟨(PU u0).parts,(PU u0).hours,(PU u0).from_,4,(PU u0).people,(PU u0).after⟩:eP))
abbrev Vy:=(aA eP.cell (UB u0))
abbrev Ty:=(oN (Vy u0) 1 5 [(aS (some true) 1 (aF .i64) [0])])
abbrev PW:=(at' (UB u0) 1)
abbrev YT:=(⟨(PW u0).parts,(PW u0).hours,(PW u0).from_,(PW u0).to_,(PW u0).people,[0]⟩:eP)
abbrev Yn:=((UB u0).set 1 (YT u0))
end
theorem pV:dJ Tryz.prog 33 [] [] (fun r=>(vB r)) (fun _=>[]) (kP):=
  dY tT mX Tryz.func33 (
  .r<| .cl 0 rQ fun r_=> .cl 1 (lK [(0,41),(1,42),(2,43),(3,44),(4,45),(5,46),(6,47),(7,48),(8,49),(9,50),(10,51),(11,52),(12,53)] (o6 r_)) fun u1=> .rg {fr:=[(2,54)]} []<| .fz [41,42,43,44,45,46,47,48,49,50,51,52]<| .cr 2 ⟨fun{u2} hr_2=>((Fn.IW (frz:=[55]) (p:=[[0,1].length=[0,1].length]) (Fn.le (args':=[(.agg (zP u1)),(sD (aS (some true) 1 (aF .i64) [0,1]))]) (Aq u1 [0,1] hr_2) (by exact⟨tK.refl _,tK.one (oo.d pK.yw),trivial⟩)) (by kernel_rfl) ⟨rfl,trivial⟩ rfl):Fn Tryz.prog 37 [(.agg (zP u1)),(.one (.own 55 true ([0,1].length)))] [(55,some (bJ 3 1 (aF .i64) [0,1]))] (.eT [(sB u2.1),(sI u2.2)]) [(55,some (bJ 3 1 (aF .i64) [0,1]))])⟩ fun u2=> .rg {an:=[(1, .arr [0,1].length (aA (aF .i64) [0,1]))],fr:=[(1,55)]} [.pf ⟨[0,1].length=2,rfl⟩, .pf ⟨aI 2 1 (nN 1 [(.int .i64 0),(.int .i64 1)]) (aA (aF .i64) [0,1]),(by intro i hi j hj;match i,j,hi,hj with|0,0,_,_=>rfl|1,0,_,_=>rfl)⟩,0]<| .cl 1 (lK [(0,56)] (lF u1)) fun u4=> .rg {fz:=[56]} []<| .cl 1 (lK [(0,57)] (vT u1)) fun u5=> .rg {fz:=[57]} []<| .cr 2 ⟨fun{u3} hr_5=>((Fn.IW (frz:=[58]) (p:=[[0,2].length=[0,2].length]) (Fn.le (args':=[(.agg (zP u1)),(sD (aS (some true) 1 (aF .i64) [0,2]))]) (wz u1 [0,2] hr_5) (by exact⟨tK.refl _,tK.one (oo.d pK.yw),trivial⟩)) (by kernel_rfl) ⟨rfl,trivial⟩ rfl):Fn Tryz.prog 35 [(.agg (zP u1)),(.one (.own 58 true ([0,2].length)))] [(58,some (bJ 3 1 (aF .i64) [0,2]))] (.eT [(sI u3.1),(sI u3.2)]) [(58,some (bJ 3 1 (aF .i64) [0,2]))])⟩ fun u3=> .rg {an:=[(1, .arr [0,2].length (aA (aF .i64) [0,2]))],fr:=[(1,58)]} [.pf ⟨[0,2].length=2,rfl⟩, .pf ⟨aI 2 1 (nN 1 [(.int .i64 0),(.int .i64 2)]) (aA (aF .i64) [0,2]),(by intro i hi j hj;match i,j,hi,hj with|0,0,_,_=>rfl|1,0,_,_=>rfl)⟩,0]<| .fk (bif (bif (bif (bif (bif u2.1 then true else(!decide (u2.2=0)))then true else(!decide (u4.2=0)))then true else(!decide (u5.2=0)))then true else(!decide (u3.2=0)))then true else(!decide (u3.1=5))) (.rg {ov:=[(21,true,0)],sk:=[22,23,24,25,28,29,30,31,32]} []<| .t<| .r<| .e false)
  (.cr 24 ⟨fun{u7} hr_6=>((Fn.IW (frz:=[59]) (p:=[[0,2].length=[0,2].length]) (Fn.le (args':=[(sD (aS none 1 (aF .i64) u4.1)),(sD (aS (some true) 1 (aF .i64) [0,2]))]) (tY u4.1 [0,2] hr_6) (by exact⟨tK.refl _,tK.one (oo.d pK.yw),trivial⟩)) (by kernel_rfl) ⟨rfl,trivial⟩ rfl):Fn Tryz.prog 11 [(sD (aS none 1 (aF .i64) u4.1)),(.one (.own 59 true ([0,2].length)))] [(59,some (bJ 3 1 (aF .i64) [0,2]))] (vB u7) [(59,some (bJ 3 1 (aF .i64) [0,2]))])⟩ fun u7=> .fk (!u7) (.rg {an:=[(23, .arr [0,2].length (aA (aF .i64) [0,2]))],fr:=[(23,59)],ov:=[(21,false,2),(27,true,0)],sk:=[28,29,30,31,32]} [.pf ⟨[0,2].length=2,rfl⟩, .pf ⟨aI 2 1 (nN 1 [(.int .i64 0),(.int .i64 2)]) (aA (aF .i64) [0,2]),(by intro i hi j hj;match i,j,hi,hj with|0,0,_,_=>rfl|1,0,_,_=>rfl)⟩, .k 1]<| .t<| .r<| .e false)
  (.cr 31 ⟨fun{u8} hr_7=>((Fn.IW (frz:=[61]) (p:=[[[0,1]].length=[[0,1]].length]) (Fn.le (args':=[(sD (aS none 1 (Az 1 (aF .i64)) u5.1)),(sD (.sl (some true) 1 [[0,1]].length (nN 1 RY)))]) (tC u5.1 [[0,1]] hr_7) (by exact⟨tK.refl _,tK.one (oo.d (pK.sl (.inl rfl) (by intro i hi j hj;match i,j,hi,hj with|0,0,_,_=>exact pK.yw))),trivial⟩)) (by kernel_rfl) ⟨rfl,trivial⟩ rfl):Fn Tryz.prog 29 [(sD (aS none 1 (Az 1 (aF .i64)) u5.1)),(.one (.own 61 true ([[0,1]].length)))] XC (vB u8) XC)⟩ fun u8=> .rg {an:=[(23, .arr [0,2].length (aA (aF .i64) [0,2])),(29, .frz [0,1].length (aA (aF .i64) [0,1])),(30, .arr [[0,1]].length (nN 1 RY))],fr:=[(23,59),(30,61)],ov:=[(21,false,3),(27,false,1)]} [.pf ⟨[0,2].length=2,rfl⟩, .pf ⟨aI 2 1 (nN 1 [(.int .i64 0),(.int .i64 2)]) (aA (aF .i64) [0,2]),(by intro i hi j hj;match i,j,hi,hj with|0,0,_,_=>rfl|1,0,_,_=>rfl)⟩, .k 2, .pf ⟨[0,1].length=2,rfl⟩, .pf ⟨aI 2 1 (nN 1 [(.int .i64 0),(.int .i64 1)]) (aA (aF .i64) [0,1]),(by intro i hi j hj;match i,j,hi,hj with|0,0,_,_=>rfl|1,0,_,_=>rfl)⟩, .pf ⟨[[0,1]].length=1,rfl⟩, .pf ⟨aI 1 1 (nN 1 RY) (nN 1 RY),iB _ _ _⟩, .k 0]<| .it (.r<| .e false)
  (.r<| .cl 1 (lK [(0,62)] (lF (⟨u1.plant,u1.state,u1.transfers,u1.jobs,u1.people,true⟩:ah))) fun v0=> .r<| .cl 1 (lK [(0,63)] (vT (⟨u1.plant,u1.state,u1.transfers,u1.jobs,u1.people,true⟩:ah))) fun u6=> .rg {fz:=[63]} []<| .fk (bif (!decide (v0.2=4))then true else(!decide (u6.2=0))) (.rg {ov:=[(6,true,0)],sk:=[7,8,9,10,11,12]} []<| .t<| .r<| .e false)
  (.cr 11 ⟨fun{u9} hr_10=>((Fn.IW (frz:=[66]) (p:=[[[0],[1]].length=[[0],[1]].length]) (Fn.le (args':=[(sD (aS none 1 (Az 1 (aF .i64)) u6.1)),(sD (.sl (some true) 1 [[0],[1]].length (nN 1 Q7)))]) (tC u6.1 [[0],[1]] hr_10) (by exact⟨tK.refl _,tK.one (oo.d (pK.sl (.inl rfl) (by intro i hi j hj;match i,j,hi,hj with|0,0,_,_=>exact pK.yw|1,0,_,_=>exact pK.yw))),trivial⟩)) (by kernel_rfl) ⟨rfl,trivial⟩ rfl):Fn Tryz.prog 29 [(sD (aS none 1 (Az 1 (aF .i64)) u6.1)),(.one (.own 66 true ([[0],[1]].length)))] XI (vB u9) XI)⟩ fun u9=> .rg {an:=[(8, .frz [0].length (aA (aF .i64) [0])),(9, .frz [1].length (aA (aF .i64) [1])),(10, .arr [[0],[1]].length (nN 1 Q7))],fr:=[(10,66)],ov:=[(6,false,1)]} [.pf ⟨[0].length=1,rfl⟩, .pf ⟨aI 1 1 (nN 1 [(.int .i64 0)]) (aA (aF .i64) [0]),(by intro i hi j hj;match i,j,hi,hj with|0,0,_,_=>rfl)⟩, .pf ⟨[1].length=1,rfl⟩, .pf ⟨aI 1 1 (nN 1 [(.int .i64 1)]) (aA (aF .i64) [1]),(by intro i hi j hj;match i,j,hi,hj with|0,0,_,_=>rfl)⟩, .pf ⟨[[0],[1]].length=2,rfl⟩, .pf ⟨aI 2 1 (nN 1 Q7) (nN 1 Q7),iB _ _ _⟩, .k 0]<| .it (.r<| .e false)
  (.cl 0 rQ fun v1=> .cl 1 (lK [(0,67),(1,68),(2,69),(3,70),(4,71),(5,72),(6,73),(7,74),(8,75),(9,76),(10,77),(11,78),(12,79)] (o6 v1)) fun u0=> .r<| .r<| .it (.r<| .e false)
  (.a2 ((0:Int)≤0∧0<(u0.jobs.length:Int)) ((0:Int)≤1∧1<(u0.jobs.length:Int))<| .rg {an:=[(6, .frz [0].length (aA (aF .i64) [0])),(9, .arr 0 (Wx u0)),(12, .arr 0 (Vy u0)),(15, .arr 0 (Ty u0))],fz:=[67,68,69,70,71,72,73,74,75,76,77,78]} [.pf ⟨[0].length=1,rfl⟩, .pf ⟨aI 1 1 (nN 1 [(.int .i64 0)]) (aA (aF .i64) [0]),(by intro i hi j hj;match i,j,hi,hj with|0,0,_,_=>rfl)⟩,0, .t 0 0 u0.jobs.length, .pf ⟨aI u0.jobs.length 6 (oN (aA eP.cell u0.jobs) 0 3 [(.int .i64 4)]) (Wx u0),gI _ _ _ _ _ _ _ _ rfl (fun j hj=>(match j,hj with|0,_=>rfl|1,_=>rfl|2,_=>rfl|3,_=>rfl|4,_=>rfl|5,_=>rfl))⟩,1, .t 1 1 u0.jobs.length, .pf ⟨aI u0.jobs.length 6 (oN (Wx u0) 1 3 [(.int .i64 4)]) (Vy u0),gI _ _ _ _ _ _ _ _ (by simp only [List.length_set]) (fun j hj=>(match j,hj with|0,_=>rfl|1,_=>rfl|2,_=>rfl|3,_=>rfl|4,_=>rfl|5,_=>rfl))⟩,1, .t 1 1 u0.jobs.length, .pf ⟨aI u0.jobs.length 6 (Ty u0) (Ty u0),iB _ _ _⟩]<| .im (.uh 54 (some (.cells 73 [(cI u0.plant.buses),(.d (QV u0)),(.d (Qx u0)),(.d (RD u0)),(.d (Sn u0)),(.d (Qy u0)),(.d (OQ u0)),(.d (QG u0)),(.d (OO u0)),(.d (R9 u0)),(.d (Pb u0)),(.d (P8 u0)),(.d (.sl none 6 u0.jobs.length (Ty u0))),(cI u0.people),(cB u0.redundant)])) (some (.cells 73 [(cI u0.plant.buses),(.d (QV u0)),(.d (Qx u0)),(.d (RD u0)),(.d (Sn u0)),(.d (Qy u0)),(.d (OQ u0)),(.d (QG u0)),(.d (OO u0)),(.d (R9 u0)),(.d (Pb u0)),(.d (P8 u0)),(.d (aS none 6 eP.cell (Yn u0))),(cI u0.people),(cB u0.redundant)])) (nQ ⟨oo.refl _,oo.refl _,oo.refl _,oo.refl _,oo.refl _,oo.refl _,oo.refl _,oo.refl _,oo.refl _,oo.refl _,oo.refl _,oo.refl _,oo.d (pK.YU (by first|rw [List.length_append,List.length_drop]|simp only [List.length_set,List.length_drop,eX]|exact List.length_replicate) (.inr rfl) (aah eP.cell (UB u0) _ _ 1 5 [(aS (some true) 1 (aF .i64) [0])] (YT u0) (by simp only [List.length_set]) (fun j hj=>match j,hj with|0,_=> .refl _|1,_=> .refl _|2,_=> .refl _|3,_=> .refl _|4,_=> .refl _|5,_=>pK.yw))),oo.refl _,oo.refl _,trivial⟩))<| .fz [54]<| .cl 1 (lK [(0,81)] (lF (⟨u0.plant,u0.state,u0.transfers,(Yn u0),u0.people,u0.redundant⟩:ah))) fun v2=> .r<| .r<| .e (decide (v2.2=4)))))))))
theorem pJ (y:ah) (u0:(List Int)):dJ Tryz.prog 36 (Q0 y u0) [] (fun r=>(vI r)) (fun _=>[]) (kR y u0):=
  dY tT mX Tryz.func36 (
  .rg {fr:=[(0,1)],fz:=[1]} []<| .r<| .r<| .lp (σ:=(Int × Int)) (β:=Int) (0,0) [] [] ⟨[1,2],[],fun(n,i)=>[(5,(vI n)),(6,(vI i))],fun(n,i)=>[]⟩ ⟨[],[],fun n1=>[(5,(vI n1))],fun n1=>[]⟩
  (fun(n,i)=> .r<| .it (.a2 (Av u0 i) (Gg y i)<| .rg {} [0,1]<| .r<| .e (.next (Zh y u0 n i)))
  (.e (.done (.brk n))))
  (fun n1=> .r<| .e n1))
theorem AV (a:(List Part)) (b:(List Part)):dJ Tryz.prog 110 [(sD (Gw a)),(sD (Gw b))] [] (fun r=>(vB r)) (fun _=>[]) (nu a b):=
  dY tT mX Tryz.func110 (
  .r<| .r<| .it (.r<| .e false)
  (.r<| .lp (σ:=Int) (β:=Unit) (0) [] [] ⟨[0,1],[],fun i=>[(5,(vI i))],fun i=>[]⟩ ⟨[],[],fun _=>[],fun _=>[]⟩
  (fun i=> .r<| .it (.a2 (Mg a i) (Mg b i)<| .rg {} [0,1]<| .it (.r<| .e (.done (.ret false)))
  (.r<| .e (.next (k8 i))))
  (.e (.done (.brk ()))))
  (fun _=> .r<| .e true)))
theorem yD (y:ah) (u2:(List Part)) (u1:Int):dJ Tryz.prog 184 (Xu y u2 u1) [] (fun r=>(vB r)) (fun _=>[]) (lS y u2 u1):=
  dY tT mX Tryz.func184 (
  .rg {fr:=[(0,10)],fz:=[10]} []<| .cl 7 (lK [(0,11),(1,12),(2,13),(3,14),(4,15),(5,16),(6,17),(7,18)] (vv y.plant y.state y.transfers u2)) fun r_=> .rg {fr:=[(11,19)],fz:=[11,12,13,14,15,16,17]} []<| .fz [19]<| .cl 3 (yU y.plant r_.1) fun u3=> .r<| .r<| .it (.r<| .e false)
  (.r<| .lp (σ:=Int) (β:=Unit) (0) [] [] ⟨[2,3,9],[],fun u0=>[(11,(vI u0))],fun u0=>[]⟩ ⟨[],[],fun _=>[],fun _=>[]⟩
  (fun u0=> .r<| .it (.a3 ((0:Int)≤u0∧u0<(y.plant.racks.length:Int)) (Xt y u1 u0 u3) (Yq y u1 u0 u3)<| .rg {} [0,1, .pf ⟨(0:Int)≤0∧(0:Int)<(2:Nat),(by decide)⟩,2, .pf ⟨(0:Int)≤1∧(1:Int)<(2:Nat),(by decide)⟩]<| .it (.r<| .e (.done (.ret false)))
  (.r<| .e (.next (k8 u0))))
  (.e (.done (.brk ()))))
  (fun _=> .r<| .e true)))
section
variable (u0:((List Part) × Int)) (i1:Int) (y:ah)
abbrev Zt:=(bif (decide (((at' u0.1 i1.toNat).kind)=1))then(at' y.state.badBus (((at' u0.1 i1.toNat).index).toNat))else false)
abbrev Zc:=(bif (Zt u0 i1 y)then true else(bif (decide (((at' u0.1 i1.toNat).kind)=2))then(at' y.state.badSource (((at' u0.1 i1.toNat).index).toNat))else false))
end
theorem Ea (y:ah) (u2:(List Part)):dJ Tryz.prog 111 [(.agg (zP y)),(sD (Gw u2))] [] (fun r=>(vB r)) (fun _=>[]) (qV y u2):=
  dY tT mX Tryz.func111 (
  .rg {fr:=[(0,6)],fz:=[6]} []<| .r<| .lp (σ:=Int) (β:=Unit) (0) [] [] ⟨[1,2],[],fun i=>[(5,(vI i))],fun i=>[]⟩ ⟨[1,2],[],fun _=>[],fun _=>[]⟩
  (fun i=> .r<| .it (.r<| .lp (σ:=Int) (β:=Unit) (0) [] [] ⟨[1,2,5],[],fun kz=>[(6,(vI kz))],fun kz=>[]⟩ ⟨[1,2,5],[],fun _=>[],fun _=>[]⟩
  (fun kz=> .r<| .it (.a2 (Mg u2 i) (Mg u2 kz)<| .rg {} [0,1]<| .it (.r<| .e (.done (.ret (.done (.ret false)))))
  (.r<| .e (.next (k8 kz))))
  (.e (.done (.brk ()))))
  (fun _=> .r<| .e (.next (k8 i))))
  (.e (.done (.brk ()))))
  (fun _=> .cl 2 (yD y u2 1) fun r_=> .r<| .it (.r<| .e false)
  (.cl 2 (lK [(0,7)] (vH y.plant)) fun u0=> .r<| .r<| .it (.r<| .e false)
  (.r<| .lp (σ:=Int) (β:=Unit) (0) [] [] ⟨[1,2,7],[7],fun i1=>[(9,(vI i1))],fun i1=>[]⟩ ⟨[],[],fun _=>[],fun _=>[]⟩
  (fun i1=> .r<| .it (.a1 ((0:Int)≤i1∧i1<(u0.1.length:Int))<| .rg {fr:=[(4,11)],fz:=[11]} [0, .t 0 i1 u0.1.length]<| .a3 ((gB [((decide (((at' u0.1 i1.toNat).kind)=1)),true)]=true→(0:Int)≤(at' u0.1 i1.toNat).index∧(at' u0.1 i1.toNat).index<(y.state.badBus.length:Int))) ((gB [((decide (((at' u0.1 i1.toNat).kind)=2)),true),((Zt u0 i1 y),false)]=true→(0:Int)≤(at' u0.1 i1.toNat).index∧(at' u0.1 i1.toNat).index<(y.state.badSource.length:Int))) ((gB [((decide (((at' u0.1 i1.toNat).kind)=3)),true),((Zc u0 i1 y),false)]=true→(0:Int)≤(at' u0.1 i1.toNat).index∧(at' u0.1 i1.toNat).index<(y.state.badLink.length:Int)))<| .rg {} [0,1,2]<| .fk (!(bif (Zc u0 i1 y)then true else(bif (decide (((at' u0.1 i1.toNat).kind)=3))then(at' y.state.badLink (((at' u0.1 i1.toNat).index).toNat))else false))) (.cl 5 (lK [(0,12)] (pG u2)) fun u1=> .cr 9 ⟨fun{u3} hr_3=>((Fn.IW (frz:=[14]) (p:=[(yP u0 i1 u1).length=(yP u0 i1 u1).length]) (yD y (yP u0 i1 u1) 2 hr_3) (by kernel_rfl) ⟨rfl,trivial⟩ rfl):Fn Tryz.prog 184 [(.agg (zP y)),(.one (.own 14 false ((yP u0 i1 u1).length))),(sI 2)] [(14,some (bJ 78 2 Part.cell (yP u0 i1 u1)))] (vB u3) [(14,some (bJ 78 2 Part.cell (yP u0 i1 u1)))])⟩ fun u3=> .a2 ((gB [(true,true)]=true→(u1.length+[(at' u0.1 i1.toNat)].length)*16≤140737488355328)) ((gB [(true,true)]=true→u1.length+[(at' u0.1 i1.toNat)].length≤4611686018427387904))<| .rg {an:=[(7, .arr [(at' u0.1 i1.toNat)].length (Pg u0 i1)),(8, .arr (yP u0 i1 u1).length (UI u0 i1 u1))],fr:=[(7,13),(8,14)],ov:=[(2,true,4)]} [.k 3, .pf ⟨[(at' u0.1 i1.toNat)].length=1,rfl⟩, .pf ⟨aI 1 2 (nN 2 [(.int .i64 ((at' u0.1 i1.toNat).kind)),(.int .i64 ((at' u0.1 i1.toNat).index))]) (Pg u0 i1),(by intro i hi j hj;match i,j,hi,hj with|0,0,_,_=>rfl|0,1,_,_=>rfl)⟩, .e (u1.length),0,1, .pf ⟨(yP u0 i1 u1).length=u1.length+[(at' u0.1 i1.toNat)].length,List.length_append⟩, .pf ⟨aI (u1.length+[(at' u0.1 i1.toNat)].length) 2 (oW (aA Part.cell u1) u1.length (Pg u0 i1)) (UI u0 i1 u1),dG _ _ _ _⟩, .k 2]<| .it (.r<| .e (.done (.ret false)))
  (.r<| .e (.next (k8 i1))))
  (.rg {ov:=[(2,false,0)],sk:=[3,4,5,6,7,8,9,10]} []<| .f<| .r<| .e (.next (k8 i1))))
  (.e (.done (.brk ()))))
  (fun _=> .r<| .e true)))))
section
variable (y:ah) (i:Int) (kz:Int)
abbrev P7:=(at' ((at' y.jobs i.toNat).after) kz.toNat)
abbrev UQ:=((decide (i≤(P7 y i kz))),false)
end
theorem wF (y:ah) (u1:(List Int)):dJ Tryz.prog 34 (Q0 y u1) [] (fun r=>(vB r)) (fun _=>[]) (mV y u1):=
  dY tT mX Tryz.func34 (
  .rg {fr:=[(0,21)]} []<| .r<| .it (.r<| .e false)
  (.r<| .lp (σ:=Int) (β:=Unit) (0) [] [] ⟨[1,2],[21],fun i=>[(5,(vI i))],fun i=>[]⟩ ⟨[1,2],[21],fun _=>[],fun _=>[]⟩
  (fun i=> .r<| .it (.a1 (Gg y i)<| .rg {fr:=[(5,25)],fz:=[25]} []<| .a2 (Av u1 i) ((gB [((decide ((at' u1 i.toNat)<((at' y.jobs i.toNat).from_))),false)]=true→(0:Int)≤i∧i<(u1.length:Int)))<| .rg {} [0,1]<| .it (.r<| .e (.done (.ret false)))
  (.r<| .lp (σ:=Int) (β:=Unit) (0) [] [] ⟨[1,2,5,6],[21],fun kz=>[(7,(vI kz))],fun kz=>[]⟩ ⟨[1,2,5],[21],fun _=>[],fun _=>[]⟩
  (fun kz=> .r<| .it (.a5 ((0:Int)≤kz∧kz<(((at' y.jobs i.toNat).after).length:Int)) ((gB [(UQ y i kz)]=true→(0:Int)≤kz∧kz<(((at' y.jobs i.toNat).after).length:Int))) ((gB [(UQ y i kz)]=true→(0:Int)≤(P7 y i kz)∧(P7 y i kz)<(u1.length:Int))) ((gB [(UQ y i kz)]=true→(0:Int)≤(P7 y i kz)∧(P7 y i kz)<(y.jobs.length:Int))) ((gB [(UQ y i kz)]=true→(0:Int)≤i∧i<(u1.length:Int)))<| .rg {} [0,1,2,1,3,4]<| .it (.r<| .e (.done (.ret (.done (.ret false)))))
  (.r<| .e (.next (k8 kz))))
  (.e (.done (.brk ()))))
  (fun _=> .r<| .e (.next (k8 i)))))
  (.e (.done (.brk ()))))
  (fun _=> .rg {fz:=[21]} []<| .r<| .lp (σ:=(Int × (List Part) × Int)) (β:=Unit) (y.people,([]:List Part),0) [] [] ⟨[1],[],fun(u3,u5,h_)=>[(2,(vD (zq [(.int .i64 y.plant.buses),(QV y),(Qx y),(RD y),(Sn y),(Qy y),(OQ y),(QG y),(OO y),(R9 y),(Pb y),(P8 y),(aS none 6 eP.cell y.jobs),(.int .i64 u3),(.bool y.redundant)] 0))),(8,(vD (Gw u5))),(9,(vI h_))],fun(u3,u5,h_)=>[]⟩ ⟨[],[],fun _=>[],fun _=>[]⟩
  (fun(u3,u5,h_)=> .cl 3 (pJ (⟨y.plant,y.state,y.transfers,y.jobs,u3,y.redundant⟩:ah) u1) fun r_=> .r<| .it (.r<| .r<| .r<| .im (.ad 11 42 78 2 (aA Part.cell ([]:List Part)))<| .lp (σ:=(Int × (List Part) × Int)) (β:=(Int × (List Part))) (0,([]:List Part),0) [] [(42,38)] ⟨[1,2,8,9],[],fun(u4,u0,i1)=>[(10,(vI u4)),(11,(vO 38 false u0.length)),(12,(vI i1))],fun(u4,u0,i1)=>(Ox u0)⟩ ⟨[1,2,8,9],[],fun(u6,u2)=>[(10,(vI u6)),(11,(vO 38 false u2.length))],fun(u6,u2)=>(Ox u2)⟩
  (fun(u4,u0,i1)=> .r<| .it (.a3 (Av u1 i1) ((gB [((decide ((at' u1 i1.toNat)≤h_)),true)]=true→(0:Int)≤i1∧i1<(u1.length:Int))) ((gB [((decide ((at' u1 i1.toNat)≤h_)),true)]=true→(0:Int)≤i1∧i1<(y.jobs.length:Int)))<| .rg {} [0,1,2]<| .it (.a1 (Gg y i1)<| .r<| .a3 (Gg y i1) ((u0.length+(zT y i1).length)*16≤140737488355328) (u0.length+(zT y i1).length≤4611686018427387904)<| .rg {an:=[(7, .arr (Mf y u0 i1).length (TR y u0 i1))],fr:=[(7,41)]} [0, .e (u0.length),1,2, .pf ⟨(Mf y u0 i1).length=u0.length+(zT y i1).length,List.length_append⟩, .pf ⟨aI (u0.length+(zT y i1).length) 2 (oW (aA Part.cell u0) u0.length (aA Part.cell (zT y i1))) (TR y u0 i1),dG _ _ _ _⟩]<| .r<| .en (.next ((IntKind.wrap .i64 (u4+((at' y.jobs i1.toNat).people))),(Mf y u0 i1),(k8 i1))) [] [(41,38)])
  (.r<| .e (.next (u4,u0,(k8 i1)))))
  (.e (.done (.brk (u4,u0)))))
  (fun(u6,u2)=> .rg {fz:=[38]} []<| .it (.r<| .e (.done (.ret false)))
  (.cg 6 [((decide ((u2.length:Int)=0)),false)] (AV u2 u5) fun u7=> .r<| .it (.r<| .e (.next (u3,u5,(k8 h_))))
  (.r<| .cl 2 (Ea (⟨y.plant,y.state,y.transfers,y.jobs,u3,y.redundant⟩:ah) u2) fun u8=> .r<| .it (.r<| .e (.done (.ret false)))
  (.r<| .e (.next (u3,u2,(k8 h_))))))))
  (.e (.done (.brk ()))))
  (fun _=> .r<| .e true))))
theorem yx (y:xH) (u2:(List Int)):dJ Tryz.prog 5 [(.agg (YO y)),(sD (BI u2))] [] (fun r=>(vB r)) (fun _=>[]) (lu y u2):=
  dY tT mX Tryz.func5 (
  .rg {fr:=[(0,17)]} []<| .rg {fr:=[(2,18)],fz:=[17,18]} []<| .r<| .it (.cl 0 pV fun r_=> .r<| .e r_)
  (.cl 1 (lK [(0,19),(1,20),(2,21),(3,22),(4,23),(5,24),(6,25),(7,26),(8,27),(9,28),(10,29),(11,30),(12,31)] (o6 y)) fun u0=> .rg {fr:=[(2,32)],fz:=[19,20,21,22,23,24,25,26,27,28,29,30]} []<| .fz [32]<| .cl 1 (kJ u0) fun u7=> .r<| .it (.cl 0 pV fun u5=> .r<| .e u5)
  (.cl 1 (lK [(0,33)] (lF u0)) fun u1=> .rg {fz:=[33]} []<| .cg 5 [((decide (u1.2=0)),true)] (wF u0 u1.1) fun u8=> .r<| .it (.r<| .e false)
  (.cl 2 (wz u0 u2) fun u3=> .r<| .cg 8 [((!decide (u1.2=0)),false),((decide (u3.2=0)),true)] (wF u0 u2) fun u4=> .cg 14 [((bif (!decide (u1.2=0))then true else(!u4)),false),((decide (u3.2=0)),true)] (pJ u0 u2) fun u9=> .cg 17 [((bif (!decide (u1.2=0))then true else(!u4)),false),((decide (u3.2=0)),true)] (pJ u0 u1.1) fun v0=> .r<| .it (.r<| .e false)
  (.cl 0 pV fun u6=> .r<| .e u6)))))
end
end Sg
