import Derived.Test.YtklofnlffikpgaaGreatBrW2
set_option linter.all false
namespace Sg
open Go Go.Proofs
set_option maxRecDepth 20000
noncomputable section
section
variable (u3:(List aj))
end
section
variable (u0:State) (x:Transfer) (s_:State) (r_:((List Bool) × Int))
end
section
variable (r_:Bool) (u0:Bool) (u1:Bool) (u2:Bool) (u3:Bool) (u4:Bool)
end
section
variable (u4:(List Bool)) (u5:(List Bool)) (u6:(List Bool)) (u7:(List Bool)) (u8:(List Bool)) (u9:(List Bool)) (v0:(List Bool)) (u0:(List Int))
end
theorem rG (p:ah) (s_:State) (l:(List Transfer)) (u3:(List Part)):iF Tryz.prog 23 (Xm p s_ l u3) [] (fun r=>(.fe [(sD (bD none 1 (aH .i64) r.1)),(sI r.2)])) (fun _=>[]) (jK p s_ l u3):=
  jr tT mX Tryz.func23 (
  .rg {fr:=[(0,23),(1,24)],fz:=[24]} []<| .cl 4 (qh [(0,25),(1,26),(2,27),(3,28),(4,29),(5,30),(6,31),(7,32)] (j3 p s_ l u3)) fun r_=> .rg {fr:=[(8,33)],fz:=[25,26,27,28,29,30,31]} []<| .fz [33]<| .r<| .it (.r<| .e (([]:List Int),r_.2))
  (.r<| .rg {fz:=[23]} []<| .im (.ad 12 46 3 1 (av (aH .i64) ([]:List Int)))<| .lp (σ:=((List Int) × Int)) (β:=(List Int)) (([]:List Int),0) [] [(46,36)] ⟨[4,10,27,28],[],fun(u1,u0)=>[(12,(vO 36 false u1.length)),(29,(vI u0))],fun(u1,u0)=>[(36,some (I6 u1))]⟩ ⟨[],[],fun u2=>[(12,(vO 36 false u2.length))],fun u2=>[(36,some (I6 u2))]⟩
  (fun(u1,u0)=> .r<| .it (.a1 (Rm p u0)<| .rg {fr:=[(3,43)],fz:=[43]} []<| .cg 7 [((decide (0<((at' p.racks u0.toNat).paths))),true)] (kL p r_.1 u0) fun u4=> .r<| .it (.a2 (XR u1 u0) (XI u1 u0)<| .rg {an:=[(2, .arr [u0].length (av (aH .i64) [u0])),(3, .arr (u1++[u0]).length (P8 u1 u0))],fr:=[(2,44),(3,45)]} [.pf ⟨[u0].length=1,rfl⟩, .pf ⟨aG 1 1 (nk 1 [(.int .i64 u0)]) (av (aH .i64) [u0]),(by intro i hi j hj;match i,j,hi,hj with|0,0,_,_=>rfl)⟩, .e (u1.length),0,1, .pf ⟨(u1++[u0]).length=u1.length+[u0].length,List.length_append⟩, .pf ⟨aG (u1.length+[u0].length) 1 (Xf u1 u0) (P8 u1 u0),dm _ _ _ _⟩]<| .r<| .en (.next ((u1++[u0]),(k10 u0))) [] [(45,36)])
  (.r<| .e (.next (u1,(k10 u0)))))
  (.e (.done (.brk u1))))
  (fun u2=> .rg {fz:=[36]} []<| .e (u2,0))))
section
variable (p:ah) (u0:Int) (r_:((List Bool) × Int)) (u1:(List bA))
end
section
variable (u1:(List Bool)) (u2:(List Bool)) (u3:(List Bool)) (u4:(List Bool)) (u5:(List Bool)) (u6:(List Bool)) (u7:(List Bool))
end
section
variable (u0:(State × (List Int) × Int)) (a0:(List Bool)) (i:Int) (a5:(List Bool)) (u3:(List Bool))
end
section
variable (u3:(List aO)) (u0:Int) (u2:(List Part)) (u1:Int) (u4:(List aO))
abbrev U5:List (Nat × Option Ob):=[(230,some (bn 87 3 aO.cell u3))]
abbrev Kl:=(⟨u0,(⟨0,0⟩:Part)⟩:aO)
abbrev XU:=(av aO.cell [(Kl u0)])
abbrev VA:=(u3++[(Kl u0)])
abbrev Y5:=(av aO.cell (VA u3 u0))
abbrev Jw:=(av Part.cell [(at' u2 u1.toNat)])
abbrev Ve:=(nk 2 [(.int .i64 ((at' u2 u1.toNat).kind)),(.int .i64 ((at' u2 u1.toNat).index))])
abbrev La:=(⟨u0,(at' u2 u1.toNat)⟩:aO)
abbrev Xh:=(av aO.cell [(La u0 u2 u1)])
abbrev Vm:=(u4++[(La u0 u2 u1)])
abbrev YL:=(av aO.cell (Vm u0 u2 u1 u4))
end
theorem tF (p:ah) (s_:State) (l:(List Transfer)):iF Tryz.prog 38 (ZO p s_ l) [] (fun r=>(.fe [(sD (bD none 3 aO.cell r.1)),(sI r.2)])) (fun _=>[]) (lF p s_ l):=
  jr tT mX Tryz.func38 (
  .rg {fr:=[(0,226),(1,227)],fz:=[227]} []<| .cl 3 (gJ p s_ l) fun r_=> .r<| .r<| .it (.r<| .e (([]:List aO),r_))
  (.r<| .rg {fz:=[226]} []<| .im (.ad 9 452 87 3 (av aO.cell ([]:List aO)))<| .lp (σ:=((List aO) × Int)) (β:=(List aO)) (([]:List aO),0) [] [(452,230)] ⟨[2,3,4,24,25],[],fun(u3,u0)=>[(9,(vO 230 false u3.length)),(26,(vI u0))],fun(u3,u0)=>(U5 u3)⟩ ⟨[],[],fun u6=>[(9,(vO 230 false u6.length))],fun u6=>(U5 u6)⟩
  (fun(u3,u0)=> .r<| .it (.a1 (Rm p u0)<| .rg {fr:=[(3,396)],fz:=[396]} []<| .cg 7 [((decide (0<((at' p.racks u0.toNat).paths))),true)] (kL p s_ u0) fun u8=> .r<| .it (.a2 ((u3.length+[(Kl u0)].length)*24≤140737488355328) (u3.length+[(Kl u0)].length≤4611686018427387904)<| .rg {an:=[(3, .arr [(Kl u0)].length (XU u0)),(4, .arr (VA u3 u0).length (Y5 u3 u0))],fr:=[(3,397),(4,398)]} [.pf ⟨[(Kl u0)].length=1,rfl⟩, .pf ⟨aG 1 3 (nk 3 [(.int .i64 u0),(.int .i64 0),(.int .i64 0)]) (XU u0),(by intro i hi j hj;match i,j,hi,hj with|0,0,_,_=>rfl|0,1,_,_=>rfl|0,2,_,_=>rfl)⟩, .e (u3.length),0,1, .pf ⟨(VA u3 u0).length=u3.length+[(Kl u0)].length,List.length_append⟩, .pf ⟨aG (u3.length+[(Kl u0)].length) 3 (qi (av aO.cell u3) u3.length (XU u0)) (Y5 u3 u0),dm _ _ _ _⟩]<| .r<| .en (.next ((VA u3 u0),(k10 u0))) [] [(398,230)])
  (.r<| .it (.r<| .e (.next (u3,(k10 u0))))
  (.cl 2 (qh [(0,399)] (nY p s_)) fun u2=> .r<| .lp (σ:=((List aO) × Int)) (β:=(List aO)) (u3,0) [] [] ⟨[2,3,4,10,24,25,26,51,52],[399],fun(u4,u1)=>[(9,(vO 230 false u4.length)),(53,(vI u1))],fun(u4,u1)=>(U5 u4)⟩ ⟨[2,3,4,24,25,26],[],fun u7=>[(9,(vO 230 false u7.length))],fun u7=>(U5 u7)⟩
  (fun(u4,u1)=> .r<| .it (.a1 (CG u2 u1)<| .rg {fr:=[(2,439)],fz:=[439]} [0, .t 0 u1 u2.length]<| .cl 5 ⟨fun{u5} hr_3=>((Fn.qm (frz:=[440]) (p:=[[(at' u2 u1.toNat)].length=[(at' u2 u1.toNat)].length]) (Fn.Uq (args:=[(.agg (k1 p)),(.agg (k21 s_)),(sD (O1 l)),(sD (bD none 2 Part.cell [(at' u2 u1.toNat)]))]) (args':=[(.agg (k1 p)),(.agg (k21 s_)),(sD (O1 l)),(sD (bD (some true) 2 Part.cell [(at' u2 u1.toNat)]))]) (hin:=[]) (Fn.wW [(0,441),(1,442),(2,443),(3,444),(4,445),(5,446),(6,447),(7,448)] (j3 p s_ l [(at' u2 u1.toNat)] hr_3) (by kernel_rfl) (by kernel_rfl) (by kernel_rfl) (by kernel_rfl)) ⟨nZ.refl _,nZ.refl _,nZ.refl _,nZ.one (eD.d dK.eX),trivial⟩ trivial) (by kernel_rfl) ⟨rfl,trivial⟩ (by kernel_rfl) ⟨(fun _ _=>rfl),⟨(fun _ _=>rfl),⟨(fun _ _=>rfl),⟨(fun _ _=>rfl),⟨(fun _ _=>rfl),⟨(fun _ _=>rfl),⟨(fun _ _=>rfl),trivial⟩⟩⟩⟩⟩⟩⟩ (by kernel_rfl)):Fn Tryz.prog 21 [(.agg (k1 p)),(.agg (k21 s_)),(sD (O1 l)),(.one (.own 440 true ([(at' u2 u1.toNat)].length)))] [(440,some (bn 84 2 Part.cell [(at' u2 u1.toNat)]))] (.fe [(.agg [(.own 441 false u5.1.closed.length),(.own 442 false u5.1.locked.length),(.own 443 false u5.1.badLink.length),(.own 444 false u5.1.on_.length),(.own 445 false u5.1.badSource.length),(.own 446 false u5.1.earthed.length),(.own 447 false u5.1.badBus.length)]),(sI u5.2)]) [(440,some (bn 84 2 Part.cell [(at' u2 u1.toNat)])),(441,some (bn 4 1 af u5.1.closed)),(442,some (bn 4 1 af u5.1.locked)),(443,some (bn 4 1 af u5.1.badLink)),(444,some (bn 4 1 af u5.1.on_)),(445,some (bn 4 1 af u5.1.badSource)),(446,some (bn 4 1 af u5.1.earthed)),(447,some (bn 4 1 af u5.1.badBus)),(448,none)])⟩ fun u5=> .rg {an:=[(4, .arr [(at' u2 u1.toNat)].length (Jw u2 u1))],fr:=[(4,440),(9,449)],fz:=[441,442,443,444,445,446,447]} [.pf ⟨[(at' u2 u1.toNat)].length=1,rfl⟩, .pf ⟨aG 1 2 (Ve u2 u1) (Jw u2 u1),(by intro i hi j hj;match i,j,hi,hj with|0,0,_,_=>rfl|0,1,_,_=>rfl)⟩,0]<| .fz [449]<| .cl 3 (kL p u5.1 u0) fun u9=> .r<| .it (.a2 ((u4.length+[(La u0 u2 u1)].length)*24≤140737488355328) (u4.length+[(La u0 u2 u1)].length≤4611686018427387904)<| .rg {an:=[(4, .arr [(La u0 u2 u1)].length (Xh u0 u2 u1)),(5, .arr (Vm u0 u2 u1 u4).length (YL u0 u2 u1 u4))],fr:=[(4,450),(5,451)]} [.pf ⟨[(La u0 u2 u1)].length=1,rfl⟩, .pf ⟨aG 1 3 (nk 3 [(.int .i64 u0),(.int .i64 ((at' u2 u1.toNat).kind)),(.int .i64 ((at' u2 u1.toNat).index))]) (Xh u0 u2 u1),(by intro i hi j hj;match i,j,hi,hj with|0,0,_,_=>rfl|0,1,_,_=>rfl|0,2,_,_=>rfl)⟩, .e (u4.length),0,1, .pf ⟨(Vm u0 u2 u1 u4).length=u4.length+[(La u0 u2 u1)].length,List.length_append⟩, .pf ⟨aG (u4.length+[(La u0 u2 u1)].length) 3 (qi (av aO.cell u4) u4.length (Xh u0 u2 u1)) (YL u0 u2 u1 u4),dm _ _ _ _⟩]<| .r<| .en (.next ((Vm u0 u2 u1 u4),(k10 u1))) [] [(451,230)])
  (.r<| .e (.next (u4,(k10 u1)))))
  (.e (.done (.brk u4))))
  (fun u7=> .r<| .e (.next (u7,(k10 u0)))))))
  (.e (.done (.brk u3))))
  (fun u6=> .rg {fz:=[230]} []<| .e (u6,0))))
section
variable (u0:(List Part))
end
section
variable (r_:((List Part) × Int)) (i:Int) (s_:State)
end
section
variable (p:ah) (s_:State) (l:(List Transfer)) (u1:(List Part)) (u2:(List Bool)) (u3:(List Bool)) (u4:(List Bool)) (u5:(List Bool)) (u6:(List Bool)) (u7:(List Bool)) (u8:(List Bool))
abbrev Zj:List SV:=[(.agg (k1 p)),(.agg (k21 s_)),(sD (O1 l)),(.one (.own 0 true u1.length))]
end
section
variable (u2:(List aO))
end
section
variable (u3:(List (List Part))) (l:(List Part)) (u0:Int) (u1:Int) (u2:(List (List Part))) (u5:(List (List Part)))
abbrev VQ:List (Nat × Option Ob):=[(72,some (bn 48 1 (uM 2 Part.cell) u3))]
abbrev AB:=(at' (l.drop (WC u0)) u1.toNat)
abbrev U2:=(nk 1 [(bD (some true) 2 Part.cell [(at' l u0.toNat),(AB l u0 u1)])])
abbrev PU:=(u2++[[(at' l u0.toNat),(AB l u0 u1)]])
abbrev Vi:=(qi (av (uM 2 Part.cell) u2) u2.length (U2 l u0 u1))
abbrev aah:=(u5,(k10 u0))
end
theorem CY (l:(List Part)):iF Tryz.prog 88 [(sD (MS l))] [] (fun r=>(vD (bD none 1 (uM 2 Part.cell) r))) (fun _=>[]) (qI l):=
  jr tT mX Tryz.func88 (
  .r<| .r<| .r<| .im (.ad 3 136 48 1 (av (uM 2 Part.cell) ([]:List (List Part))))<| .lp (σ:=((List (List Part)) × Int)) (β:=(List (List Part))) (([]:List (List Part)),0) [] [(136,72)] ⟨[0,8,9],[],fun(u3,u0)=>[(3,(vO 72 false u3.length)),(10,(vI u0))],fun(u3,u0)=>(VQ u3)⟩ ⟨[],[],fun u4=>[(3,(vO 72 false u4.length))],fun u4=>(VQ u4)⟩
  (fun(u3,u0)=> .r<| .it (.a1 (CG l u0)<| .rg {fr:=[(3,119)],fz:=[119]} []<| .a1 ((0:Int)≤(k10 u0)∧(k10 u0)≤(l.length:Int))<| .r<| .im (.us 18 (vD (.sl none 2 (l.length - (WC u0)) (fun iq jq=>av Part.cell l (iq+(WC u0)) jq))) (vD (bD none 2 Part.cell (l.drop (WC u0)))) (Da.v (nZ.one (eD.d (dK.slN (by first|rw [List.length_append,List.length_drop]|simp only [List.length_set,List.length_drop,Bt]) (.inr rfl) (RQ _ _ _ _))))))<| .lp (σ:=((List (List Part)) × Int)) (β:=(List (List Part))) (u3,0) [] [] ⟨[0,5,8,9,10,18,19],[],fun(u2,u1)=>[(3,(vO 72 false u2.length)),(20,(vI u1))],fun(u2,u1)=>(VQ u2)⟩ ⟨[0,8,9,10],[],fun u5=>[(3,(vO 72 false u5.length))],fun u5=>(VQ u5)⟩
  (fun(u2,u1)=> .r<| .it (.a1 ((0:Int)≤u1∧u1<((l.drop (WC u0)).length:Int))<| .rg {fr:=[(2,132)],fz:=[132]} []<| .a2 ((u2.length+[[(at' l u0.toNat),(AB l u0 u1)]].length)*24≤140737488355328) (u2.length+[[(at' l u0.toNat),(AB l u0 u1)]].length≤4611686018427387904)<| .rg {an:=[(3, .frz [(at' l u0.toNat),(AB l u0 u1)].length (av Part.cell [(at' l u0.toNat),(AB l u0 u1)])),(4, .arr [[(at' l u0.toNat),(AB l u0 u1)]].length (U2 l u0 u1)),(5, .arr (PU l u0 u1 u2).length (Vi l u0 u1 u2))],fr:=[(4,134),(5,135)]} [.pf ⟨[(at' l u0.toNat),(AB l u0 u1)].length=2,rfl⟩, .pf ⟨aG 2 2 (nk 2 [(.int .i64 ((at' l u0.toNat).kind)),(.int .i64 ((at' l u0.toNat).index)),(.int .i64 ((AB l u0 u1).kind)),(.int .i64 ((AB l u0 u1).index))]) (av Part.cell [(at' l u0.toNat),(AB l u0 u1)]),(by intro i hi j hj;match i,j,hi,hj with|0,0,_,_=>rfl|0,1,_,_=>rfl|1,0,_,_=>rfl|1,1,_,_=>rfl)⟩, .pf ⟨[[(at' l u0.toNat),(AB l u0 u1)]].length=1,rfl⟩, .pf ⟨aG 1 1 (U2 l u0 u1) (U2 l u0 u1),sU _ _ _⟩, .e (u2.length),0,1, .pf ⟨(PU l u0 u1 u2).length=u2.length+[[(at' l u0.toNat),(AB l u0 u1)]].length,List.length_append⟩, .pf ⟨aG (u2.length+[[(at' l u0.toNat),(AB l u0 u1)]].length) 1 (Vi l u0 u1 u2) (Vi l u0 u1 u2),sU _ _ _⟩]<| .im (.uh 135 (some (.arr 48 1 (PU l u0 u1 u2).length (Vi l u0 u1 u2))) (some (.arr 48 1 (PU l u0 u1 u2).length (av (uM 2 Part.cell) (PU l u0 u1 u2)))) (D8 (ZG (uM 2 Part.cell) u2 [[(at' l u0.toNat),(AB l u0 u1)]] _ (by intro i hi j hj;match i,j,hi,hj with|0,0,_,_=>exact dK.eX))))<| .r<| .en (.next ((PU l u0 u1 u2),(k10 u1))) [] [(135,72)])
  (.e (.done (.brk u2))))
  (fun u5=> .r<| .e (.next (aah u0 u5))))
  (.e (.done (.brk u3))))
  (fun u4=> .rg {fz:=[72]} []<| .e u4))
theorem Am (p:ah) (s_:State) (l:(List Transfer)) (u2:(List Part)):iF Tryz.prog 23 (Zj p s_ l u2) (AP u2) (fun r=>(.fe [(sD (bD none 1 (aH .i64) r.1)),(sI r.2)])) (fun r=>(AP u2)) (jK p s_ l u2):=
  jr tT mX Tryz.func23 (
  .rg {fr:=[(0,24),(1,25)],fz:=[25]} []<| .cl 4 ⟨fun{r_} hr_=>((Fn.qm (frz:=[0]) (p:=[u2.length=u2.length]) (Fn.Uq (args:=(Xm p s_ l u2)) (args':=[(.agg (k1 p)),(.agg (k21 s_)),(sD (O1 l)),(sD (bD (some true) 2 Part.cell u2))]) (hin:=[]) (rK [(0,26),(1,27),(2,28),(3,29),(4,30),(5,31),(6,32),(7,33)] (j3 p s_ l u2 hr_)) ⟨nZ.refl _,nZ.refl _,nZ.refl _,nZ.one (eD.d dK.eX),trivial⟩ trivial) (by kernel_rfl) ⟨rfl,trivial⟩ (by kernel_rfl) ⟨(fun _ _=>rfl),⟨(fun _ _=>rfl),⟨(fun _ _=>rfl),⟨(fun _ _=>rfl),⟨(fun _ _=>rfl),⟨(fun _ _=>rfl),⟨(fun _ _=>rfl),trivial⟩⟩⟩⟩⟩⟩⟩ (by kernel_rfl)):Fn Tryz.prog 21 (Zj p s_ l u2) (AP u2) (.fe [(.agg [(.own 26 false r_.1.closed.length),(.own 27 false r_.1.locked.length),(.own 28 false r_.1.badLink.length),(.own 29 false r_.1.on_.length),(.own 30 false r_.1.badSource.length),(.own 31 false r_.1.earthed.length),(.own 32 false r_.1.badBus.length)]),(sI r_.2)]) [(0,some (bn 84 2 Part.cell u2)),(26,some (bn 4 1 af r_.1.closed)),(27,some (bn 4 1 af r_.1.locked)),(28,some (bn 4 1 af r_.1.badLink)),(29,some (bn 4 1 af r_.1.on_)),(30,some (bn 4 1 af r_.1.badSource)),(31,some (bn 4 1 af r_.1.earthed)),(32,some (bn 4 1 af r_.1.badBus)),(33,none)])⟩ fun r_=> .rg {fr:=[(8,34)],fz:=[26,27,28,29,30,31,32]} []<| .fz [34]<| .r<| .it (.r<| .e (([]:List Int),r_.2))
  (.r<| .rg {fz:=[24]} []<| .im (.ad 12 47 3 1 (av (aH .i64) ([]:List Int)))<| .lp (σ:=((List Int) × Int)) (β:=(List Int)) (([]:List Int),0) [] [(47,37)] ⟨[4,10,27,28],[0],fun(u1,u0)=>[(12,(vO 37 false u1.length)),(29,(vI u0))],fun(u1,u0)=>[(37,some (I6 u1))]⟩ ⟨[],[0],fun u3=>[(12,(vO 37 false u3.length))],fun u3=>[(37,some (I6 u3))]⟩
  (fun(u1,u0)=> .r<| .it (.a1 (Rm p u0)<| .rg {fr:=[(3,44)],fz:=[44]} []<| .cg 7 [((decide (0<((at' p.racks u0.toNat).paths))),true)] (kL p r_.1 u0) fun u4=> .r<| .it (.a2 (XR u1 u0) (XI u1 u0)<| .rg {an:=[(2, .arr [u0].length (av (aH .i64) [u0])),(3, .arr (u1++[u0]).length (P8 u1 u0))],fr:=[(2,45),(3,46)]} [.pf ⟨[u0].length=1,rfl⟩, .pf ⟨aG 1 1 (nk 1 [(.int .i64 u0)]) (av (aH .i64) [u0]),(by intro i hi j hj;match i,j,hi,hj with|0,0,_,_=>rfl)⟩, .e (u1.length),0,1, .pf ⟨(u1++[u0]).length=u1.length+[u0].length,List.length_append⟩, .pf ⟨aG (u1.length+[u0].length) 1 (Xf u1 u0) (P8 u1 u0),dm _ _ _ _⟩]<| .r<| .en (.next ((u1++[u0]),(k10 u0))) [] [(46,37)])
  (.r<| .e (.next (u1,(k10 u0)))))
  (.e (.done (.brk u1))))
  (fun u3=> .rg {fz:=[37]} []<| .e (u3,0))))
theorem Cc (x:(List Part)) (x1:Int) (u0:(List Source)) (u1:(List Link)) (u2:(List aS)) (x2:(List Bool)) (u3:(List Bool)) (u4:(List Bool)) (u5:(List Bool)) (u6:(List Bool)) (u7:(List Bool)) (u8:(List Bool)) (x3:(List Transfer)):iF Tryz.prog 87 [(.one (.own 0 true x.length)),(sD (k3 x1 u0 u1 u2)),(sD (XV x2 u3 u4 u5 u6 u7 u8)),(sD (Gn [(O1 x3)] 0))] (AP x) (fun r=>(vB r)) (fun r=>(AP x)) (kJ x x1 u0 u1 u2 x2 u3 u4 u5 u6 u7 u8 x3):=
  jr tT mX Tryz.func87 (
  .r<| .cr 4 (Am (⟨x1,u0,u1,u2⟩:ah) (VG x2 u3 u4 u5 u6 u7 u8) x3 x) fun r_=> .r<| .r<| .e (decide (0<(r_.1.length:Int))))
theorem yD (x:(List Part)) (x1:Int) (u0:(List Source)) (u1:(List Link)) (u2:(List aS)) (x2:(List Bool)) (u3:(List Bool)) (u4:(List Bool)) (u5:(List Bool)) (u6:(List Bool)) (u7:(List Bool)) (u8:(List Bool)) (x3:(List Transfer)):iF Tryz.prog 87 [(sD (MS x)),(sD (k3 x1 u0 u1 u2)),(sD (XV x2 u3 u4 u5 u6 u7 u8)),(sD (Gn [(O1 x3)] 0))] [] (fun r=>(vB r)) (fun _=>[]) (kJ x x1 u0 u1 u2 x2 u3 u4 u5 u6 u7 u8 x3):=
  jr tT mX Tryz.func87 (
  .r<| .cl 4 (rG (⟨x1,u0,u1,u2⟩:ah) (VG x2 u3 u4 u5 u6 u7 u8) x3 x) fun r_=> .r<| .r<| .e (decide (0<(r_.1.length:Int))))
section
variable (p:ah) (s_:State) (l:(List Transfer)) (v0:Bool) (u1:(List Part)) (u0:Int) (u2:(List (List Part)))
abbrev abp:List SV:=[(.agg (k1 p)),(.agg (k21 s_)),(sD (O1 l)),(sB v0)]
abbrev UZ:=(nk 1 [(bD (some true) 2 Part.cell [(at' u1 u0.toNat)])])
abbrev Pw:=(u2++[[(at' u1 u0.toNat)]])
abbrev Uw:=(qi (av (uM 2 Part.cell) u2) u2.length (UZ u1 u0))
end
theorem xL (p:ah) (s_:State) (l:(List Transfer)) (v0:Bool):iF Tryz.prog 40 (abp p s_ l v0) [] (fun r=>(.fe [(sD (bD none 1 (uM 2 Part.cell) r.1)),(sI r.2)])) (fun _=>[]) (p9 p s_ l v0):=
  jr tT mX Tryz.func40 (
  .rg {fr:=[(0,40),(1,41),(2,42)],fz:=[40,41,42]} []<| .cl 3 (gJ p s_ l) fun r_=> .r<| .r<| .it (.r<| .e (([]:List (List Part)),r_))
  (.r<| .r<| .r<| .cl 2 (qh [(0,43)] (nY p s_)) fun u1=> .r<| .im (.ad 12 72 48 1 (av (uM 2 Part.cell) ([]:List (List Part))))<| .im (.ad 13 73 84 2 (av Part.cell ([]:List Part)))<| .lp (σ:=((List (List Part)) × (List Part) × Int)) (β:=((List (List Part)) × (List Part))) (([]:List (List Part)),([]:List Part),0) [] [(72,48),(73,50)] ⟨[3,11,28,29],[43],fun(u2,u4,u0)=>[(12,(vO 48 false u2.length)),(13,(vO 50 false u4.length)),(30,(vI u0))],fun(u2,u4,u0)=>[(48,some (bn 48 1 (uM 2 Part.cell) u2)),(50,some (bn 84 2 Part.cell u4))]⟩ ⟨[3,11],[],fun(u7,u8)=>[(12,(vO 48 false u7.length)),(13,(vO 50 false u8.length))],fun(u7,u8)=>[(48,some (bn 48 1 (uM 2 Part.cell) u7)),(50,some (bn 84 2 Part.cell u8))]⟩
  (fun(u2,u4,u0)=> .r<| .it (.a1 (CG u1 u0)<| .rg {fr:=[(2,65)],fz:=[65]} [0, .t 0 u0 u1.length]<| .cr 3 (qh [(0,66)] (Cc [(at' u1 u0.toNat)] p.buses p.sources p.links p.racks s_.closed s_.locked s_.badLink s_.on_ s_.badSource s_.earthed s_.badBus l)) fun v1=> .rg {an:=[(2, .arr [(at' u1 u0.toNat)].length (Jw u1 u0))],fr:=[(2,66)]} [.pf ⟨[(at' u1 u0.toNat)].length=1,rfl⟩, .pf ⟨aG 1 2 (Ve u1 u0) (Jw u1 u0),(by intro i hi j hj;match i,j,hi,hj with|0,0,_,_=>rfl|0,1,_,_=>rfl)⟩,0]<| .it (.a2 ((u2.length+[[(at' u1 u0.toNat)]].length)*24≤140737488355328) (u2.length+[[(at' u1 u0.toNat)]].length≤4611686018427387904)<| .rg {an:=[(2, .frz [(at' u1 u0.toNat)].length (Jw u1 u0)),(3, .arr [[(at' u1 u0.toNat)]].length (UZ u1 u0)),(4, .arr (Pw u1 u0 u2).length (Uw u1 u0 u2))],fr:=[(3,68),(4,69)]} [.pf ⟨[(at' u1 u0.toNat)].length=1,rfl⟩, .pf ⟨aG 1 2 (Ve u1 u0) (Jw u1 u0),(by intro i hi j hj;match i,j,hi,hj with|0,0,_,_=>rfl|0,1,_,_=>rfl)⟩, .pf ⟨[[(at' u1 u0.toNat)]].length=1,rfl⟩, .pf ⟨aG 1 1 (UZ u1 u0) (UZ u1 u0),sU _ _ _⟩, .e (u2.length),0,1, .pf ⟨(Pw u1 u0 u2).length=u2.length+[[(at' u1 u0.toNat)]].length,List.length_append⟩, .pf ⟨aG (u2.length+[[(at' u1 u0.toNat)]].length) 1 (Uw u1 u0 u2) (Uw u1 u0 u2),sU _ _ _⟩]<| .im (.uh 69 (some (.arr 48 1 (Pw u1 u0 u2).length (Uw u1 u0 u2))) (some (.arr 48 1 (Pw u1 u0 u2).length (av (uM 2 Part.cell) (Pw u1 u0 u2)))) (D8 (ZG (uM 2 Part.cell) u2 [[(at' u1 u0.toNat)]] _ (by intro i hi j hj;match i,j,hi,hj with|0,0,_,_=>exact dK.eX))))<| .r<| .en (.next ((Pw u1 u0 u2),u4,(k10 u0))) [] [(69,48)])
  (.a2 ((u4.length+[(at' u1 u0.toNat)].length)*16≤140737488355328) (u4.length+[(at' u1 u0.toNat)].length≤4611686018427387904)<| .rg {an:=[(2, .arr [(at' u1 u0.toNat)].length (Jw u1 u0)),(3, .arr (u4++[(at' u1 u0.toNat)]).length (av Part.cell (u4++[(at' u1 u0.toNat)])))],fr:=[(2,70),(3,71)]} [.pf ⟨[(at' u1 u0.toNat)].length=1,rfl⟩, .pf ⟨aG 1 2 (Ve u1 u0) (Jw u1 u0),(by intro i hi j hj;match i,j,hi,hj with|0,0,_,_=>rfl|0,1,_,_=>rfl)⟩, .e (u4.length),0,1, .pf ⟨(u4++[(at' u1 u0.toNat)]).length=u4.length+[(at' u1 u0.toNat)].length,List.length_append⟩, .pf ⟨aG (u4.length+[(at' u1 u0.toNat)].length) 2 (qi (av Part.cell u4) u4.length (Jw u1 u0)) (av Part.cell (u4++[(at' u1 u0.toNat)])),dm _ _ _ _⟩]<| .r<| .en (.next (u2,(u4++[(at' u1 u0.toNat)]),(k10 u0))) [] [(71,50)]))
  (.e (.done (.brk (u2,u4)))))
  (fun(u7,u8)=> .rg {fz:=[50]} []<| .it (.cl 1 (CY u8) fun u6=> .r<| .lp (σ:=((List (List Part)) × Int)) (β:=(List (List Part))) (u7,0) [] [] ⟨[11,50,51],[],fun(u5,u3)=>[(12,(vO 48 false u5.length)),(52,(vI u3))],fun(u5,u3)=>[(48,some (bn 48 1 (uM 2 Part.cell) u5))]⟩ ⟨[],[],fun u9=>[(12,(vO 48 false u9.length))],fun u9=>[(48,some (bn 48 1 (uM 2 Part.cell) u9))]⟩
  (fun(u5,u3)=> .r<| .it (.a1 ((0:Int)≤u3∧u3<(u6.length:Int))<| .r<| .cl 2 (yD (at' u6 u3.toNat) p.buses p.sources p.links p.racks s_.closed s_.locked s_.badLink s_.on_ s_.badSource s_.earthed s_.badBus l) fun v2=> .r<| .it (.a2 ((u5.length+[(at' u6 u3.toNat)].length)*24≤140737488355328) (u5.length+[(at' u6 u3.toNat)].length≤4611686018427387904)<| .rg {an:=[(2, .arr [(at' u6 u3.toNat)].length (av (uM 2 Part.cell) [(at' u6 u3.toNat)])),(3, .arr (u5++[(at' u6 u3.toNat)]).length (av (uM 2 Part.cell) (u5++[(at' u6 u3.toNat)])))],fr:=[(2,80),(3,81)]} [.pf ⟨[(at' u6 u3.toNat)].length=1,rfl⟩, .pf ⟨aG 1 1 (nk 1 [(bD none 2 Part.cell (at' u6 u3.toNat))]) (av (uM 2 Part.cell) [(at' u6 u3.toNat)]),(by intro i hi j hj;match i,j,hi,hj with|0,0,_,_=>rfl)⟩, .e (u5.length),0,1, .pf ⟨(u5++[(at' u6 u3.toNat)]).length=u5.length+[(at' u6 u3.toNat)].length,List.length_append⟩, .pf ⟨aG (u5.length+[(at' u6 u3.toNat)].length) 1 (qi (av (uM 2 Part.cell) u5) u5.length (av (uM 2 Part.cell) [(at' u6 u3.toNat)])) (av (uM 2 Part.cell) (u5++[(at' u6 u3.toNat)])),dm _ _ _ _⟩]<| .r<| .en (.next ((u5++[(at' u6 u3.toNat)]),(k10 u3))) [] [(81,48)])
  (.r<| .e (.next (aah u3 u5))))
  (.e (.done (.brk u5))))
  (fun u9=> .rg {fz:=[48]} []<| .e (u9,0)))
  (.rg {fz:=[48]} []<| .e (u7,0)))))
section
variable (u0:(List Part)) (u3:(List Bool)) (i:Int) (u4:((List Int) × Int)) (u6:(List (List Part))) (i1:Int) (kz:Int) (u1:(List (List Part)))
end
section
variable (i:Int) (u6:((List aO) × Int))
abbrev Qm:=((0:Int)≤i∧i<(u6.1.length:Int))
end
section
variable (u0:((List aO) × Int)) (i:Int) (p:ah) (u8:(Int × Int)) (u6:((List Part) × Int)) (u4:Bool) (kz:Int)
abbrev ZQ:=((gB [((decide (((at' u0.1 i.toNat).rack)<0)),false)]=true→(0:Int)≤i∧i<(u0.1.length:Int)))
abbrev ZT:=((bif (decide (((at' u0.1 i.toNat).rack)<0))then true else(decide ((p.racks.length:Int)≤((at' u0.1 i.toNat).rack)))),false)
abbrev ZB:=((gB [(ZT u0 i p)]=true→(0:Int)≤i∧i<(u0.1.length:Int)))
abbrev Z6:=((gB [(ZT u0 i p)]=true→(0:Int)≤(at' u0.1 i.toNat).rack∧(at' u0.1 i.toNat).rack<(p.racks.length:Int)))
abbrev aai:=((gB [((bif (bif (!decide (u8.2=0))then true else(!decide (u6.2=0)))then true else(decide (u8.1=2))),false)]=true→(0:Int)≤i∧i<(u0.1.length:Int)))
abbrev ZN:=((bif u4 then true else((decide (((at' u6.1 kz.toNat).kind)=(((at' u0.1 i.toNat).part).kind))) && ((decide (((at' u6.1 kz.toNat).index)=(((at' u0.1 i.toNat).part).index))) && true))),(k10 kz))
end
theorem xC (p:ah) (s_:State) (l:(List Transfer)):iF Tryz.prog 8 (ZO p s_ l) [] (fun r=>(vB r)) (fun _=>[]) (jY p s_ l):=
  jr tT mX Tryz.func8 (
  .rg {fr:=[(0,10),(1,11)],fz:=[10,11]} []<| .cg 29 [((bif (bif (bif (bif (decide (60<(p.sources.length:Int)))then true else(decide (20<(p.links.length:Int))))then true else(decide (60<(p.racks.length:Int))))then true else(decide (12<p.buses)))then true else(decide (60<(l.length:Int)))),false)] (dz p s_) fun r_=> .r<| .it (.cl 0 qD fun v4=> .r<| .e v4)
  (.cl 3 (Cq p s_ l) fun u2=> .r<| .r<| .it (.a1 ((0:Int)≤(6:Int)∧(6:Int)≤(u2.length:Int))<| .r<| .im (.us 7 (vD (.sl none 3 6 (av Transfer.cell u2))) (vD (bD none 3 Transfer.cell (ve u2 0 6))) (Da.v (nZ.one (eD.d (dK.slN (by first|rw [List.length_append,List.length_drop]|simp only [List.length_set,List.length_drop,Bt]) (.inr rfl) (Yt _ _ _ _))))))<| .cl 3 (tF p s_ (ve u2 0 6)) fun u0=> .r<| .r<| .it (.r<| .e false)
  (.r<| .lp (σ:=Int) (β:=Unit) (0) [] [] ⟨[3,4,7,8],[],fun i=>[(10,(vI i))],fun i=>[]⟩ ⟨[3,4,7],[],fun _=>[],fun _=>[]⟩
  (fun i=> .r<| .it (.a4 (Qm i u0) (ZQ u0 i) (ZB u0 i p) (Z6 u0 i p)<| .rg {} [0,1,2,3]<| .it (.r<| .e (.done (.ret false)))
  (.cl 7 (jX p s_ ((at' u0.1 i.toNat).rack)) fun u8=> .a1 (Qm i u0)<| .rg {} [0,1]<| .cl 7 (qh [(0,15)] (iH p s_ ((at' u0.1 i.toNat).rack))) fun u6=> .a1 (Qm i u0)<| .rg {fz:=[15]} [0,1]<| .a1 (aai u0 i u8 u6)<| .r<| .it (.r<| .e (.done (.ret false)))
  (.r<| .r<| .lp (σ:=(Bool × Int)) (β:=Bool) ((decide (u8.1=0)),0) [] [] ⟨[3,4,7,8,10,13],[],fun(u4,kz)=>[(15,(vB u4)),(16,(vI kz))],fun(u4,kz)=>[]⟩ ⟨[3,4,7,8,10],[],fun u9=>[(15,(vB u9))],fun u9=>[]⟩
  (fun(u4,kz)=> .r<| .it (.a2 ((gB [(u4,false)]=true→(0:Int)≤kz∧kz<(u6.1.length:Int))) ((gB [(u4,false)]=true→(0:Int)≤i∧i<(u0.1.length:Int)))<| .rg {} [0,1]<| .r<| .e (.next (ZN u0 i u6 u4 kz)))
  (.e (.done (.brk u4))))
  (fun u9=> .r<| .it (.r<| .e (.done (.ret false)))
  (.r<| .e (.next (k10 i)))))))
  (.e (.done (.brk ()))))
  (fun _=> .cl 3 (xL p s_ (ve u2 0 6) false) fun v0=> .r<| .r<| .it (.r<| .e false)
  (.r<| .lp (σ:=Int) (β:=Unit) (0) [] [] ⟨[3,4,7,17],[],fun i1=>[(18,(vI i1))],fun i1=>[]⟩ ⟨[],[],fun _=>[],fun _=>[]⟩
  (fun i1=> .r<| .it (.cl 7 (rG p s_ (ve u2 0 6) (at' v0.1 i1.toNat)) fun v5=> .a1 ((0:Int)≤i1∧i1<(v0.1.length:Int))<| .rg {} [0,1]<| .a1 ((gB [((!decide (v5.2=0)),false)]=true→(0:Int)≤i1∧i1<(v0.1.length:Int)))<| .r<| .it (.r<| .e (.done (.ret false)))
  (.r<| .e (.next (k10 i1))))
  (.e (.done (.brk ()))))
  (fun _=> .cl 0 qD fun v6=> .r<| .e v6)))))
  (.cl 3 (tF p s_ u2) fun u1=> .r<| .r<| .it (.r<| .e false)
  (.r<| .lp (σ:=Int) (β:=Unit) (0) [] [] ⟨[3,4,7,8],[],fun i2=>[(10,(vI i2))],fun i2=>[]⟩ ⟨[3,4,7],[],fun _=>[],fun _=>[]⟩
  (fun i2=> .r<| .it (.a4 (Qm i2 u1) (ZQ u1 i2) (ZB u1 i2 p) (Z6 u1 i2 p)<| .rg {} [0,1,2,3]<| .it (.r<| .e (.done (.ret false)))
  (.cl 7 (jX p s_ ((at' u1.1 i2.toNat).rack)) fun v1=> .a1 (Qm i2 u1)<| .rg {} [0,1]<| .cl 7 (qh [(0,19)] (iH p s_ ((at' u1.1 i2.toNat).rack))) fun u7=> .a1 (Qm i2 u1)<| .rg {fz:=[19]} [0,1]<| .a1 (aai u1 i2 v1 u7)<| .r<| .it (.r<| .e (.done (.ret false)))
  (.r<| .r<| .lp (σ:=(Bool × Int)) (β:=Bool) ((decide (v1.1=0)),0) [] [] ⟨[3,4,7,8,10,13],[],fun(u5,u3)=>[(15,(vB u5)),(16,(vI u3))],fun(u5,u3)=>[]⟩ ⟨[3,4,7,8,10],[],fun v2=>[(15,(vB v2))],fun v2=>[]⟩
  (fun(u5,u3)=> .r<| .it (.a2 ((gB [(u5,false)]=true→(0:Int)≤u3∧u3<(u7.1.length:Int))) ((gB [(u5,false)]=true→(0:Int)≤i2∧i2<(u1.1.length:Int)))<| .rg {} [0,1]<| .r<| .e (.next (ZN u1 i2 u7 u5 u3)))
  (.e (.done (.brk u5))))
  (fun v2=> .r<| .it (.r<| .e (.done (.ret false)))
  (.r<| .e (.next (k10 i2)))))))
  (.e (.done (.brk ()))))
  (fun _=> .cl 3 (xL p s_ u2 false) fun v3=> .r<| .r<| .it (.r<| .e false)
  (.r<| .lp (σ:=Int) (β:=Unit) (0) [] [] ⟨[3,4,7,17],[],fun i3=>[(18,(vI i3))],fun i3=>[]⟩ ⟨[],[],fun _=>[],fun _=>[]⟩
  (fun i3=> .r<| .it (.cl 7 (rG p s_ u2 (at' v3.1 i3.toNat)) fun v7=> .a1 ((0:Int)≤i3∧i3<(v3.1.length:Int))<| .rg {} [0,1]<| .a1 ((gB [((!decide (v7.2=0)),false)]=true→(0:Int)≤i3∧i3<(v3.1.length:Int)))<| .r<| .it (.r<| .e (.done (.ret false)))
  (.r<| .e (.next (k10 i3))))
  (.e (.done (.brk ()))))
  (fun _=> .cl 0 qD fun v8=> .r<| .e v8)))))))
end
end Sg
