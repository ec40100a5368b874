import Derived.Test.YtboodeobmgjjpaaGreatBaW2
set_option linter.all false
namespace Sg
open Go Go.Proofs
set_option maxRecDepth 20000
noncomputable section
theorem qH (l:(List Int)):eu Tryz.prog 58 [(sD (RB l))] [] (fun r=>(vO 0 false r.length)) (fun r=>[(0,some (bO 3 1 (bM .i64) r))]) (oN l):=
  eZ tT mX Tryz.func58 (
  .r<| .r<| .a2 (l.length*8≤140737488355328) (l.length≤4611686018427387904)<| .rg {an:=[(2, .arr l.length (ay (bM .i64) l))],fr:=[(2,1)]} [0,1, .e (l.length), .pf ⟨aR l.length 1 (ay (bM .i64) l) (ay (bM .i64) l),xw _ _ _⟩]<| .en l [] [(1,0)])
theorem pI (l:(List af)):eu Tryz.prog 40 (Vo l) [] (fun r=>(vO 0 false r.length)) (fun r=>[(0,some (bO 61 2 af.cell r))]) (gM l):=
  eZ tT mX Tryz.func40 (
  .r<| .r<| .a2 (l.length*16≤140737488355328) (l.length≤4611686018427387904)<| .rg {an:=[(2, .arr l.length (ay af.cell l))],fr:=[(2,1)]} [0,1, .e (l.length), .pf ⟨aR l.length 2 (ay af.cell l) (ay af.cell l),xw _ _ _⟩]<| .en l [] [(1,0)])
section
variable (t:Task)
abbrev aat:List SV:=[(.agg (k2 t))]
end
section
variable (x:af) (p:au)
end
section
variable (s_:State) (i:Int) (p:au)
end
section
variable (p:au) (b:Int) (u0:(List Bool)) (i:Int)
end
section
variable (u0:(List Bool)) (b:Int) (u2:(List Bool))
end
section
variable (u3:(List aC)) (u1:Bool) (u2:Bool) (u6:(List Bool)) (p:au) (kz:Int)
end
section
variable (p:au) (s_:State) (u0:(List Int)) (b:Int) (i:Int) (r_:Bool)
end
section
variable (p:au) (t:Task) (i:Int)
end
section
variable (x:af) (s_:State)
end
section
variable (r_:State) (i:Int)
end
section
variable (r_:State) (x:af)
end
section
variable (a:State) (b:State) (r_:Bool) (u0:Bool) (u1:Bool) (u2:Bool) (u3:Bool) (u4:Bool)
abbrev ZE:List SV:=[(.agg (zP a)),(.agg (zP b))]
abbrev YX:=(bif (k14 r_ u0 u1 u2 u3)then u4 else false)
end
theorem sG (a:State) (b:State):eu Tryz.prog 27 (ZE a b) [] (fun r=>(vB r)) (fun _=>[]) (fD a b):=
  eZ tT mX Tryz.func27 (
  .rg {fr:=[(0,2),(1,3)],fz:=[2,3]} []<| .cl 4 (dB a.closed b.closed) fun r_=> .cg 10 [(r_,true)] (dB a.locked b.locked) fun u0=> .cg 17 [(k11 r_ u0)] (dB a.badLink b.badLink) fun u1=> .cg 24 [(k12 r_ u0 u1)] (dB a.on_ b.on_) fun u2=> .cg 31 [((k13 r_ u0 u1 u2),true)] (dB a.badSource b.badSource) fun u3=> .cg 38 [((k14 r_ u0 u1 u2 u3),true)] (dB a.earthed b.earthed) fun u4=> .cg 45 [((YX r_ u0 u1 u2 u3 u4),true)] (dB a.badBus b.badBus) fun u5=> .r<| .e (bif (YX r_ u0 u1 u2 u3 u4)then u5 else false))
section
variable (x:af)
end
section
variable (s_:State) (l:(List State)) (u3:(List (List af))) (u1:(List af)) (t:Task) (kz:Int)
end
theorem BA (t:Task):eu Tryz.prog 14 (aat t) [] (fun r=>(.v (.agg [(.own 0 false r.fed.length),(.own 1 false r.crew.length),(.own 2 false r.allowed.length),(.own 3 false r.goal.length)]))) (fun r=>[(0,some (bO 3 1 (bM .i64) r.fed)),(1,some (bO 3 1 (bM .i64) r.crew)),(2,some (bO 61 2 af.cell r.allowed)),(3,some (bO 61 2 af.cell r.goal)),(4,none)]) (uG t):=
  eZ tT mX Tryz.func14 (
  .rg {fr:=[(0,6),(1,7)],fz:=[6]} []<| .cl 2 (dV [(0,8)] (qH t.fed)) fun r_=> .cl 5 (dV [(0,9)] (qH t.crew)) fun u0=> .cl 8 (dV [(0,10)] (pI t.allowed)) fun u1=> .cl 11 (dV [(0,11)] (pI t.goal)) fun u2=> .r<| .en (⟨r_,u0,u1,u2⟩:Task) [] [(8,0),(9,1),(10,2),(11,3),(7,4)])
theorem BM (p:au) (t:Task):eu Tryz.prog 29 (k0 p t) [] (fun r=>(vB r)) (fun _=>[]) (oO p t):=
  eZ tT mX Tryz.func29 (
  .rg {fr:=[(0,2),(1,3)],fz:=[2,3]} []<| .r<| .lp (σ:=Int) (β:=Unit) (0) [] [] ⟨[2,3],[],fun i=>[(5,(vI i))],fun i=>[]⟩ ⟨[2,3],[],fun _=>[],fun _=>[]⟩
  (fun i=> .r<| .it (.a2 ((0:Int)≤i∧i<(t.fed.length:Int)) ((gB [((decide ((at' t.fed i.toNat)<0)),false)]=true→(0:Int)≤i∧i<(t.fed.length:Int)))<| .rg {} [0,1]<| .it (.r<| .e (.done (.ret false)))
  (.r<| .e (.next (k18 i))))
  (.e (.done (.brk ()))))
  (fun _=> .r<| .lp (σ:=Int) (β:=Unit) (0) [] [] ⟨[2,3],[],fun i1=>[(6,(vI i1))],fun i1=>[]⟩ ⟨[],[],fun _=>[],fun _=>[]⟩
  (fun i1=> .r<| .it (.a2 ((0:Int)≤i1∧i1<(t.crew.length:Int)) ((gB [((decide ((at' t.crew i1.toNat)<0)),false)]=true→(0:Int)≤i1∧i1<(t.crew.length:Int)))<| .rg {} [0,1]<| .it (.r<| .e (.done (.ret false)))
  (.r<| .e (.next (k18 i1))))
  (.e (.done (.brk ()))))
  (fun _=> .r<| .e true)))
section
variable (n2:Int) (kz:Int)
end
section
variable (s_:State) (p:au)
end
section
variable (u0:State) (t9:Int) (u1:(List Link))
end
end
end Sg
