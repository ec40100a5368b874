import Derived.Test.YtboodeobmgjjpaaGreatReW2
set_option linter.all false
namespace Sg
open Go Go.Proofs
set_option maxRecDepth 20000
noncomputable section
theorem qI (l:(List Int)):eP Tryz.prog 58 [(sD (Pz l))] [] (fun r=>(vO 0 false r.length)) (fun r=>[(0,some (bS 3 1 (bL .i64) r))]) (oH l):=
  fD tT mX Tryz.func58 (
  .r<| .r<| .a2 (l.length*8≤140737488355328) (l.length≤4611686018427387904)<| .rg {an:=[(2, .arr l.length (ay (bL .i64) l))],fr:=[(2,1)]} [0,1, .e (l.length), .pf ⟨aT l.length 1 (ay (bL .i64) l) (ay (bL .i64) l),qa _ _ _⟩]<| .en l [] [(1,0)])
theorem pK (l:(List af)):eP Tryz.prog 40 (aaH l) [] (fun r=>(vO 0 false r.length)) (fun r=>[(0,some (bS 61 2 af.cell r))]) (gI l):=
  fD tT mX Tryz.func40 (
  .r<| .r<| .a2 (l.length*16≤140737488355328) (l.length≤4611686018427387904)<| .rg {an:=[(2, .arr l.length (ay af.cell l))],fr:=[(2,1)]} [0,1, .e (l.length), .pf ⟨aT l.length 2 (ay af.cell l) (ay af.cell l),qa _ _ _⟩]<| .en l [] [(1,0)])
section
variable (t:Task)
abbrev Zb:List SV:=[(.agg (k2 t))]
end
section
variable (x:af) (p:aj)
end
section
variable (s_:State) (i:Int) (p:aj)
end
section
variable (p:aj) (b:Int) (u0:(List Bool)) (i:Int)
end
section
variable (u0:(List Bool)) (b:Int) (u2:(List Bool))
end
section
variable (u3:(List aC)) (u1:Bool) (u2:Bool) (u6:(List Bool)) (p:aj) (kz:Int)
end
section
variable (p:aj) (s_:State) (u0:(List Int)) (b:Int) (i:Int) (r_:Bool)
end
section
variable (p:aj) (t:Task) (i:Int)
end
section
variable (x:af) (s_:State)
end
section
variable (r_:State) (i:Int)
end
section
variable (r_:State) (x:af)
end
section
variable (a:State) (b:State) (r_:Bool) (u0:Bool) (u1:Bool) (u2:Bool) (u3:Bool) (u4:Bool)
end
section
variable (x:af)
end
section
variable (s_:State) (l:(List State)) (u3:(List (List af))) (u1:(List af)) (t:Task) (kz:Int)
end
theorem Bt (t:Task):eP Tryz.prog 14 (Zb t) [] (fun r=>(.v (.agg [(.own 0 false r.fed.length),(.own 1 false r.crew.length),(.own 2 false r.allowed.length),(.own 3 false r.goal.length)]))) (fun r=>[(0,some (bS 3 1 (bL .i64) r.fed)),(1,some (bS 3 1 (bL .i64) r.crew)),(2,some (bS 61 2 af.cell r.allowed)),(3,some (bS 61 2 af.cell r.goal)),(4,none)]) (uN t):=
  fD tT mX Tryz.func14 (
  .rg {fr:=[(0,6),(1,7)],fz:=[6]} []<| .cl 2 (d9 [(0,8)] (qI t.fed)) fun r_=> .cl 5 (d9 [(0,9)] (qI t.crew)) fun u0=> .cl 8 (d9 [(0,10)] (pK t.allowed)) fun u1=> .cl 11 (d9 [(0,11)] (pK t.goal)) fun u2=> .r<| .en (⟨r_,u0,u1,u2⟩:Task) [] [(8,0),(9,1),(10,2),(11,3),(7,4)])
theorem BN (p:aj) (t:Task):eP Tryz.prog 29 (k0 p t) [] (fun r=>(vB r)) (fun _=>[]) (oQ p t):=
  fD tT mX Tryz.func29 (
  .rg {fr:=[(0,2),(1,3)],fz:=[2,3]} []<| .r<| .lp (σ:=Int) (β:=Unit) (0) [] [] ⟨[2,3],[],fun i=>[(5,(vI i))],fun i=>[]⟩ ⟨[2,3],[],fun _=>[],fun _=>[]⟩
  (fun i=> .r<| .it (.a2 ((0:Int)≤i∧i<(t.fed.length:Int)) ((gB [((decide ((at' t.fed i.toNat)<0)),false)]=true→(0:Int)≤i∧i<(t.fed.length:Int)))<| .rg {} [0,1]<| .it (.r<| .e (.done (.ret false)))
  (.r<| .e (.next (k18 i))))
  (.e (.done (.brk ()))))
  (fun _=> .r<| .lp (σ:=Int) (β:=Unit) (0) [] [] ⟨[2,3],[],fun i1=>[(6,(vI i1))],fun i1=>[]⟩ ⟨[],[],fun _=>[],fun _=>[]⟩
  (fun i1=> .r<| .it (.a2 ((0:Int)≤i1∧i1<(t.crew.length:Int)) ((gB [((decide ((at' t.crew i1.toNat)<0)),false)]=true→(0:Int)≤i1∧i1<(t.crew.length:Int)))<| .rg {} [0,1]<| .it (.r<| .e (.done (.ret false)))
  (.r<| .e (.next (k18 i1))))
  (.e (.done (.brk ()))))
  (fun _=> .r<| .e true)))
theorem CU (p:aj) (s_:State) (x:af):eP Tryz.prog 34 (IA p s_ x) [] (fun r=>(.iL [(sB r.1),(sI r.2)])) (fun _=>[]) (ny p s_ x):=
  fD tT mX Tryz.func34 (
  .rg {fr:=[(0,3),(1,4),(2,5)],fz:=[3,4,5]} []<| .cl 2 (dh p s_) fun r_=> .r<| .r<| .it (.r<| .e (false,r_))
  (.cl 2 (pz p x) fun u1=> .r<| .it (.r<| .e (false,1))
  (.cl 2 (pQ s_ x) fun u0=> .r<| .e (u0,0))))
section
variable (n2:Int) (kz:Int)
end
section
variable (s_:State) (p:aj)
end
section
variable (u0:State) (t9:Int) (u1:(List Link))
end
end
end Sg
