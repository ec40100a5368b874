import Derived.Test.YtklofnlffikpgaaGreatCoW1
set_option linter.all false
namespace Sg
open Go Go.Proofs
set_option maxRecDepth 20000
noncomputable section
section
variable (s0:List Bool) (s1:List Bool) (s2:List Bool) (s3:List Bool) (s4:List Bool) (s5:List Bool) (s6:List Bool)
abbrev aae:List (Nat × Option Ob):=[(17,some (.cells 29 [.d (aZ none 1 af s0),.d (aZ none 1 af s1),.d (aZ none 1 af s2),.d (aZ none 1 af s3),.d (aZ none 1 af s4),.d (aZ none 1 af s5),.d (aZ none 1 af s6)]))]
end
theorem Ag (p:ah) (s_:State) (l:List Transfer) (u2:List Part):dN Tryz.prog 21 [.agg (k1 p),.agg (k23 s_),sD (aZ none 3 Transfer.cell l),sD (DF u2)] [] (fun r=>(.fF [.agg [.own 0 false r.1.aq.length,.own 1 false r.1.aw.length,.own 2 false r.1.am.length,.own 3 false r.1.on_.length,.own 4 false r.1.ag.length,.own 5 false r.1.ar.length,.own 6 false r.1.al.length],sI r.2])) (fun r=>[(0,some (aW 4 1 af r.1.aq)),(1,some (aW 4 1 af r.1.aw)),(2,some (aW 4 1 af r.1.am)),(3,some (aW 4 1 af r.1.on_)),(4,some (aW 4 1 af r.1.ag)),(5,some (aW 4 1 af r.1.ar)),(6,some (aW 4 1 af r.1.al)),(7,none)]) (AR p s_ l u2):=
  eF tT mX Tryz.func21 (
  .rg {fr:=[(0,16),(1,17),(2,18)],fz:=[16]} []<| .cl 3 (nZ p s_ l) fun r_=> .r<| .r<| .it (.r<| .im (.HY 18 0 19 4 1 (aj af ([]:List Bool)))<| .im (.HY 18 1 20 4 1 (aj af ([]:List Bool)))<| .im (.HY 18 2 21 4 1 (aj af ([]:List Bool)))<| .im (.HY 18 3 22 4 1 (aj af ([]:List Bool)))<| .im (.HY 18 4 23 4 1 (aj af ([]:List Bool)))<| .im (.HY 18 5 24 4 1 (aj af ([]:List Bool)))<| .im (.HY 18 6 25 4 1 (aj af ([]:List Bool)))<| .en (Ya r_) [] [(19,0),(20,1),(21,2),(22,3),(23,4),(24,5),(25,6),(18,7)])
  (.r<| .lp (σ:=((List Bool) × (List Bool) × (List Bool) × (List Bool) × (List Bool) × (List Bool) × (List Bool) × Int)) (β:=((List Bool) × (List Bool) × (List Bool) × (List Bool) × (List Bool) × (List Bool) × (List Bool))) (s_.aq,s_.aw,s_.am,s_.on_,s_.ag,s_.ar,s_.al,0) [] [] ⟨[2,4,5,8,24,25],[18],fun(s0,s1,s2,s3,s4,s5,s6,u1)=>[(26,vI u1)],fun(s0,s1,s2,s3,s4,s5,s6,u1)=>(aae s0 s1 s2 s3 s4 s5 s6)⟩ ⟨[2,4,5,8],[18],fun(u3,u4,u5,u6,u7,u8,u9)=>[],fun(u3,u4,u5,u6,u7,u8,u9)=>(aae u3 u4 u5 u6 u7 u8 u9)⟩
  (fun(s0,s1,s2,s3,s4,s5,s6,u1)=> .r<| .it (.a1 (zF u2 u1)<| .rg {fr:=[(2,29)],fz:=[29]} []<| .r<| .cl 3 (sG p (⟨s0,s1,s2,s3,s4,s5,s6⟩:State) (at' u2 u1.toNat)) fun u0=> .r<| .r<| .it (.r<| .im (.HY 18 0 30 4 1 (aj af ([]:List Bool)))<| .im (.HY 18 1 31 4 1 (aj af ([]:List Bool)))<| .im (.HY 18 2 32 4 1 (aj af ([]:List Bool)))<| .im (.HY 18 3 33 4 1 (aj af ([]:List Bool)))<| .im (.HY 18 4 34 4 1 (aj af ([]:List Bool)))<| .im (.HY 18 5 35 4 1 (aj af ([]:List Bool)))<| .im (.HY 18 6 36 4 1 (aj af ([]:List Bool)))<| .en (.done (.ret ((⟨([]:List Bool),([]:List Bool),([]:List Bool),([]:List Bool),([]:List Bool),([]:List Bool),([]:List Bool)⟩:State),u0.2))) [] [(30,0),(31,1),(32,2),(33,3),(34,4),(35,5),(36,6),(18,7)])
  (.r<| .e (.next (u0.1.aq,u0.1.aw,u0.1.am,u0.1.on_,u0.1.ag,u0.1.ar,u0.1.al,k11 u1))))
  (.e (.done (.brk (s0,s1,s2,s3,s4,s5,s6)))))
  (fun(u3,u4,u5,u6,u7,u8,u9)=> .cl 3 (mr [(0,37),(1,38),(2,39),(3,40),(4,41),(5,42),(6,43),(7,44),(8,45)] (jD p (⟨u3,u4,u5,u6,u7,u8,u9⟩:State) l)) fun v0=> .r<| .r<| .en (v0.1,v0.2.2) [] [(37,0),(38,1),(39,2),(40,3),(41,4),(42,5),(43,6),(18,7)])))
section
variable (r_:ah × State) (u0:ah × State) (u1:State × (List Int) × Int) (u6:Bool)
abbrev JW:List CV:=[cI r_.1.ap,.d (aZ (some true) 5 Source.cell r_.1.aa),.d (aZ (some true) 6 Link.cell r_.1.ae),.d (aZ (some true) 4 aL.cell r_.1.a_)]
abbrev Q7:DV:=(aZ (some true) 1 af r_.2.aw)
abbrev Wh:DV:=(aZ (some true) 1 af r_.2.am)
abbrev Sm:DV:=(aZ (some true) 1 af r_.2.on_)
abbrev Sn:DV:=(aZ (some true) 1 af r_.2.ag)
abbrev QT:DV:=(aZ (some true) 1 af r_.2.ar)
abbrev Qw:DV:=(aZ (some true) 1 af r_.2.al)
abbrev aa1:List SV:=[.agg (JW r_),.agg [.d (aZ (some true) 1 af r_.2.aq),.d (Q7 r_),.d (Wh r_),.d (Sm r_),.d (Sn r_),.d (QT r_),.d (Qw r_)],sI 0]
abbrev X7:List CV:=[cI r_.1.ap,.own 76 true r_.1.aa.length,.own 77 true r_.1.ae.length,.own 78 true r_.1.a_.length]
abbrev aby:List SV:=[.agg (X7 r_),.agg [.own 79 true r_.2.aq.length,.own 80 true r_.2.aw.length,.own 81 true r_.2.am.length,.own 82 true r_.2.on_.length,.own 83 true r_.2.ag.length,.own 84 true r_.2.ar.length,.own 85 true r_.2.al.length],sI 0]
abbrev QN:Nat × Option Ob:=(76,some (aW 125 5 Source.cell r_.1.aa))
abbrev QL:Nat × Option Ob:=(77,some (aW 113 6 Link.cell r_.1.ae))
abbrev Q6:Nat × Option Ob:=(78,some (aW 100 4 aL.cell r_.1.a_))
abbrev QD:Nat × Option Ob:=(80,some (aW 4 1 af r_.2.aw))
abbrev QC:Nat × Option Ob:=(81,some (aW 4 1 af r_.2.am))
abbrev QA:Nat × Option Ob:=(82,some (aW 4 1 af r_.2.on_))
abbrev RV:Nat × Option Ob:=(83,some (aW 4 1 af r_.2.ag))
abbrev QS:Nat × Option Ob:=(84,some (aW 4 1 af r_.2.ar))
abbrev QW:Nat × Option Ob:=(85,some (aW 4 1 af r_.2.al))
abbrev YU:List (Nat × Option Ob):=[QN r_,QL r_,Q6 r_,(79,some (aW 4 1 af r_.2.aq)),QD r_,QC r_,QA r_,RV r_,QS r_,QW r_]
abbrev QJ:List CV:=[cI r_.1.ap,.d (aZ none 5 Source.cell r_.1.aa),.d (aZ none 6 Link.cell r_.1.ae),.d (aZ none 4 aL.cell r_.1.a_)]
abbrev TK:DV:=(aZ none 1 af r_.2.ag)
abbrev TF:DV:=(aZ none 1 af r_.2.ar)
abbrev uJ:=(r_.2.aq.set 1 false)
abbrev U4:=(aj af (uJ r_))
abbrev aad:List CV:=[.d (aZ (some true) 1 af (uJ r_)),.d (Q7 r_),.d (Wh r_),.d (Sm r_),.d (Sn r_),.d (QT r_),.d (Qw r_)]
abbrev abF:List SV:=[.agg (JW r_),.agg (aad r_),sI 0]
abbrev Yw:=(⟨uJ r_,r_.2.aw,r_.2.am,r_.2.on_,r_.2.ag,r_.2.ar,r_.2.al⟩:State)
abbrev ZV:List SV:=[.agg (X7 r_),.agg [.own 79 true ((uJ r_).length),.own 80 true r_.2.aw.length,.own 81 true r_.2.am.length,.own 82 true r_.2.on_.length,.own 83 true r_.2.ag.length,.own 84 true r_.2.ar.length,.own 85 true r_.2.al.length],sI 0]
abbrev Ym:List (Nat × Option Ob):=[QN r_,QL r_,Q6 r_,(79,some (aW 4 1 af (uJ r_))),QD r_,QC r_,QA r_,RV r_,QS r_,QW r_]
abbrev abe:List CV:=[.d (aZ none 1 af (uJ r_)),.d (aZ none 1 af r_.2.aw),.d (aZ none 1 af r_.2.am),.d (aZ none 1 af r_.2.on_),.d (TK r_),.d (TF r_),.d (aZ none 1 af r_.2.al)]
abbrev abO:List (Nat × Option Ob):=[(92,some (aW 84 2 Part.cell [(⟨1,0⟩:Part),(⟨1,2⟩:Part),(⟨2,0⟩:Part),(⟨3,0⟩:Part)]))]
abbrev GH:=((uJ r_).set 1 true)
abbrev VB:Nat × Option Ob:=(109,some (aW 4 1 af u0.2.aw))
abbrev V6:Nat × Option Ob:=(110,some (aW 4 1 af u0.2.am))
abbrev Xt:Nat × Option Ob:=(112,some (aW 4 1 af u0.2.ag))
abbrev WN:Nat × Option Ob:=(113,some (aW 4 1 af u0.2.ar))
abbrev V7:Nat × Option Ob:=(114,some (aW 4 1 af u0.2.al))
abbrev aak:Nat × Option Ob:=(129,some (aW 46 3 Transfer.cell [(⟨3,2,1⟩:Transfer),(⟨2,-1,0⟩:Transfer)]))
abbrev Za:List CV:=[.d (aZ (some true) 1 af [true,false,false]),.d (Q7 u0),.d (aZ (some true) 1 af (u0.2.am.set 0 true)),.d (Sm u0),.d (Sn u0),.d (QT u0),.d (Qw u0)]
abbrev abH:Nat × Option Ob:=(141,some (aW 46 3 Transfer.cell [(⟨2,-1,2⟩:Transfer),(⟨3,-1,1⟩:Transfer)]))
abbrev QM:DV:=(aZ none 1 (aH .i64) u1.2.1)
abbrev Um:=((gB [((bif u6 then(decide ((u1.1.aq.length:Int)=3))else false),true)]=true->(0:Int)<=2/\2<(u1.1.aq.length:Int)))
end
theorem qK:dN Tryz.prog 11 [] [] (fun r=>(vB r)) (fun _=>[]) (nV):=
  eF tT mX Tryz.func11 (
  .r<| .cl 0 (mr [(0,76),(1,77),(2,78),(3,79),(4,80),(5,81),(6,82),(7,83),(8,84),(9,85),(10,86),(11,87)] (qD 1)) fun r_=> .rg {fr:=[(4,88),(5,89)],ts:=[1,2],hs:=[76,77,78,79,80,81,82,83,84,85,88,89]} []<| .cr 2 ⟨fun{u9} hr_1=>((Fn.CW (frz:=[76,77,78,79,80,81,82,83,84,85]) (p:=[r_.1.aa.length=r_.1.aa.length,r_.1.ae.length=r_.1.ae.length,r_.1.a_.length=r_.1.a_.length,r_.2.aq.length=r_.2.aq.length,r_.2.aw.length=r_.2.aw.length,r_.2.am.length=r_.2.am.length,r_.2.on_.length=r_.2.on_.length,r_.2.ag.length=r_.2.ag.length,r_.2.ar.length=r_.2.ar.length,r_.2.al.length=r_.2.al.length]) (Fn.le (args':=(aa1 r_)) (nT r_.1 r_.2 0 hr_1) (by exact⟨pJ.agg ⟨fq.refl _,fq.d eu.fT,fq.d eu.fT,fq.d eu.fT,trivial⟩,pJ.agg ⟨fq.d eu.fT,fq.d eu.fT,fq.d eu.fT,fq.d eu.fT,fq.d eu.fT,fq.d eu.fT,fq.d eu.fT,trivial⟩,pJ.refl _,trivial⟩)) (by kernel_rfl) ⟨rfl,rfl,rfl,rfl,rfl,rfl,rfl,rfl,rfl,rfl,trivial⟩ rfl):Fn Tryz.prog 28 (aby r_) (YU r_) (.fF [sI u9.1,sI u9.2]) (YU r_))⟩ fun u9=> .rg {ts:=[1,2,3,4],hs:=[76,77,78,79,80,81,82,83,84,85,88,89]} []<| .cl 2 ⟨fun{u8} hr_2=>((Fn.uj (frz:=[76,77,78,79,80,81,82,83,84,85]) (p:=[r_.1.aa.length=r_.1.aa.length,r_.1.ae.length=r_.1.ae.length,r_.1.a_.length=r_.1.a_.length,r_.2.aq.length=r_.2.aq.length,r_.2.aw.length=r_.2.aw.length,r_.2.am.length=r_.2.am.length,r_.2.on_.length=r_.2.on_.length,r_.2.ag.length=r_.2.ag.length,r_.2.ar.length=r_.2.ar.length,r_.2.al.length=r_.2.al.length]) (Fn.Vm (args:=[.agg (QJ r_),.agg [.d (aZ none 1 af r_.2.aq),.d (aZ none 1 af r_.2.aw),.d (aZ none 1 af r_.2.am),.d (aZ none 1 af r_.2.on_),.d (TK r_),.d (TF r_),.d (aZ none 1 af r_.2.al)],sI 0]) (args':=(aa1 r_)) (hin:=[]) (rK [(0,90)] (kS r_.1 r_.2 0 hr_2)) ⟨pJ.agg ⟨fq.refl _,fq.d eu.fT,fq.d eu.fT,fq.d eu.fT,trivial⟩,pJ.agg ⟨fq.d eu.fT,fq.d eu.fT,fq.d eu.fT,fq.d eu.fT,fq.d eu.fT,fq.d eu.fT,fq.d eu.fT,trivial⟩,pJ.refl _,trivial⟩ trivial) (by kernel_rfl) ⟨rfl,rfl,rfl,rfl,rfl,rfl,rfl,rfl,rfl,rfl,trivial⟩ (by kernel_rfl) ⟨(fun _ j=>match j with|0=>rfl|1=>rfl|_+2=>rfl),trivial⟩ (by kernel_rfl)):Fn Tryz.prog 32 (aby r_) (YU r_) (.fF [.one (.own 90 false u8.1.length),sI u8.2]) [QN r_,QL r_,Q6 r_,(79,some (aW 4 1 af r_.2.aq)),QD r_,QC r_,QA r_,RV r_,QS r_,QW r_,(90,some (aW 84 2 Part.cell u8.1))])⟩ fun u8=> .rg {fz:=[90],ts:=[1,2,3,4,5,6],hs:=[76,77,78,79,80,81,82,83,84,85,88,89]} []<| .rg {ts:=[1,2,46],hs:=[76,77,78,79,80,81,82,83,84,85,88,89]} []<| .it (.rg {ts:=[0]} []<| .e false)
  (.a1 ((0:Int)<=1/\1<(r_.2.aq.length:Int))<| .rg {an:=[(3, .arr 0 (U4 r_))],ts:=[1,2],hs:=[76,77,78,79,80,81,82,83,84,85,88,89]} [0, .t 0 1 r_.2.aq.length, .pf ⟨aF r_.2.aq.length 1 (nR (aj af r_.2.aq) 1 0 [.bool false]) (U4 r_),dB _ _ _ _ _ _ _ _ rfl (fun j hj=>(match j,hj with|0,_=>rfl))⟩]<| .im (.ll 79 r_.2.aq (uJ r_))<| .cr 2 ⟨fun{u7} hr_3=>((Fn.CW (frz:=[76,77,78,79,80,81,82,83,84,85]) (p:=[r_.1.aa.length=r_.1.aa.length,r_.1.ae.length=r_.1.ae.length,r_.1.a_.length=r_.1.a_.length,(uJ r_).length=(uJ r_).length,r_.2.aw.length=r_.2.aw.length,r_.2.am.length=r_.2.am.length,r_.2.on_.length=r_.2.on_.length,r_.2.ag.length=r_.2.ag.length,r_.2.ar.length=r_.2.ar.length,r_.2.al.length=r_.2.al.length]) (Fn.le (args':=(abF r_)) (nT r_.1 (Yw r_) 0 hr_3) (by exact⟨pJ.agg ⟨fq.refl _,fq.d eu.fT,fq.d eu.fT,fq.d eu.fT,trivial⟩,pJ.agg ⟨fq.d eu.fT,fq.d eu.fT,fq.d eu.fT,fq.d eu.fT,fq.d eu.fT,fq.d eu.fT,fq.d eu.fT,trivial⟩,pJ.refl _,trivial⟩)) (by kernel_rfl) ⟨rfl,rfl,rfl,rfl,rfl,rfl,rfl,rfl,rfl,rfl,trivial⟩ rfl):Fn Tryz.prog 28 (ZV r_) (Ym r_) (.fF [sI u7.1,sI u7.2]) (Ym r_))⟩ fun u7=> .rg {ts:=[1,2,3,4],hs:=[76,77,78,79,80,81,82,83,84,85,88,89]} []<| .cl 2 ⟨fun{u5} hr_4=>((Fn.uj (frz:=[76,77,78,79,80,81,82,83,84,85]) (p:=[r_.1.aa.length=r_.1.aa.length,r_.1.ae.length=r_.1.ae.length,r_.1.a_.length=r_.1.a_.length,(uJ r_).length=(uJ r_).length,r_.2.aw.length=r_.2.aw.length,r_.2.am.length=r_.2.am.length,r_.2.on_.length=r_.2.on_.length,r_.2.ag.length=r_.2.ag.length,r_.2.ar.length=r_.2.ar.length,r_.2.al.length=r_.2.al.length]) (Fn.Vm (args:=[.agg (QJ r_),.agg (abe r_),sI 0]) (args':=(abF r_)) (hin:=[]) (Fn.yK [(0,91)] (kS r_.1 (Yw r_) 0 hr_4) (by kernel_rfl) (by kernel_rfl) (by kernel_rfl) (by kernel_rfl)) ⟨pJ.agg ⟨fq.refl _,fq.d eu.fT,fq.d eu.fT,fq.d eu.fT,trivial⟩,pJ.agg ⟨fq.d eu.fT,fq.d eu.fT,fq.d eu.fT,fq.d eu.fT,fq.d eu.fT,fq.d eu.fT,fq.d eu.fT,trivial⟩,pJ.refl _,trivial⟩ trivial) (by kernel_rfl) ⟨rfl,rfl,rfl,rfl,rfl,rfl,rfl,rfl,rfl,rfl,trivial⟩ (by kernel_rfl) ⟨(fun _ j=>match j with|0=>rfl|1=>rfl|_+2=>rfl),trivial⟩ (by kernel_rfl)):Fn Tryz.prog 32 (ZV r_) (Ym r_) (.fF [.one (.own 91 false u5.1.length),sI u5.2]) [QN r_,QL r_,Q6 r_,(79,some (aW 4 1 af (uJ r_))),QD r_,QC r_,QA r_,RV r_,QS r_,QW r_,(91,some (aW 84 2 Part.cell u5.1))])⟩ fun u5=> .rg {fz:=[91],ts:=[1,2,3,4,5,6],hs:=[76,77,78,79,80,81,82,83,84,85,88,89]} []<| .fk (bif (bif (!decide (u7.2=0))then true else(!decide (u5.2=0)))then true else(!decide (u7.1=1))) (.rg {ov:=[(10,true,0)],sk:=[11,12,13,14,15,16,17,18],ts:=[1,2,81],hs:=[76,77,78,79,80,81,82,83,84,85,88,89]} []<| .t<| .rg {ts:=[0]} []<| .e false)
  (.cr 17 ⟨fun{v4} hr_5=>((Fn.CW (frz:=[92]) (p:=[[(⟨1,0⟩:Part),(⟨1,2⟩:Part),(⟨2,0⟩:Part),(⟨3,0⟩:Part)].length=[(⟨1,0⟩:Part),(⟨1,2⟩:Part),(⟨2,0⟩:Part),(⟨3,0⟩:Part)].length]) (Fn.le (args':=[sD (aZ none 2 Part.cell u5.1),sD (aZ (some true) 2 Part.cell [(⟨1,0⟩:Part),(⟨1,2⟩:Part),(⟨2,0⟩:Part),(⟨3,0⟩:Part)])]) (tZ u5.1 [(⟨1,0⟩:Part),(⟨1,2⟩:Part),(⟨2,0⟩:Part),(⟨3,0⟩:Part)] hr_5) (by exact⟨pJ.refl _,pJ.one (fq.d eu.fT),trivial⟩)) (by kernel_rfl) ⟨rfl,trivial⟩ rfl):Fn Tryz.prog 34 [sD (aZ none 2 Part.cell u5.1),.one (.own 92 true ([(⟨1,0⟩:Part),(⟨1,2⟩:Part),(⟨2,0⟩:Part),(⟨3,0⟩:Part)].length))] abO (vB v4) abO)⟩ fun v4=> .rg {an:=[(16, .arr [(⟨1,0⟩:Part),(⟨1,2⟩:Part),(⟨2,0⟩:Part),(⟨3,0⟩:Part)].length (aj Part.cell [(⟨1,0⟩:Part),(⟨1,2⟩:Part),(⟨2,0⟩:Part),(⟨3,0⟩:Part)]))],fr:=[(16,92)],ov:=[(10,false,1)],ts:=[1,2,81],hs:=[76,77,78,79,80,81,82,83,84,85,88,89]} [.pf ⟨[(⟨1,0⟩:Part),(⟨1,2⟩:Part),(⟨2,0⟩:Part),(⟨3,0⟩:Part)].length=4,rfl⟩, .pf ⟨aF 4 2 (lS 2 [.int .i64 1,.int .i64 0,.int .i64 1,.int .i64 2,.int .i64 2,.int .i64 0,.int .i64 3,.int .i64 0]) (aj Part.cell [(⟨1,0⟩:Part),(⟨1,2⟩:Part),(⟨2,0⟩:Part),(⟨3,0⟩:Part)]),(by intro i hi j hj;match i,j,hi,hj with|0,0,_,_=>rfl|0,1,_,_=>rfl|1,0,_,_=>rfl|1,1,_,_=>rfl|2,0,_,_=>rfl|2,1,_,_=>rfl|3,0,_,_=>rfl|3,1,_,_=>rfl)⟩, .k 0]<| .it (.rg {ts:=[0]} []<| .e false)
  (.a1 ((0:Int)<=1/\1<((uJ r_).length:Int))<| .rg {an:=[(3, .arr 0 (aj af (GH r_)))],ts:=[1,2],hs:=[76,77,78,79,80,81,82,83,84,85,88,89]} [0, .t 0 1 ((uJ r_).length), .pf ⟨aF (uJ r_).length 1 (nR (U4 r_) 1 0 [.bool true]) (aj af (GH r_)),dB _ _ _ _ _ _ _ _ rfl (fun j hj=>(match j,hj with|0,_=>rfl))⟩]<| .im (.ll 79 (uJ r_) (GH r_))<| .rg {an:=[(1, .arr [(⟨3,1,2⟩:Transfer)].length (aj Transfer.cell [(⟨3,1,2⟩:Transfer)]))],fr:=[(1,93)],fz:=[93],ts:=[1,2,7],hs:=[76,77,78,79,80,81,82,83,84,85,88,89]} [.pf ⟨[(⟨3,1,2⟩:Transfer)].length=1,rfl⟩, .pf ⟨aF 1 3 (lS 3 [.int .i64 3,.int .i64 1,.int .i64 2]) (aj Transfer.cell [(⟨3,1,2⟩:Transfer)]),(by intro i hi j hj;match i,j,hi,hj with|0,0,_,_=>rfl|0,1,_,_=>rfl|0,2,_,_=>rfl)⟩]<| .cl 5 ⟨fun{u4} hr_6=>((Fn.uj (frz:=[76,77,78,79,80,81,82,83,84,85,94]) (p:=[r_.1.aa.length=r_.1.aa.length,r_.1.ae.length=r_.1.ae.length,r_.1.a_.length=r_.1.a_.length,(GH r_).length=(GH r_).length,r_.2.aw.length=r_.2.aw.length,r_.2.am.length=r_.2.am.length,r_.2.on_.length=r_.2.on_.length,r_.2.ag.length=r_.2.ag.length,r_.2.ar.length=r_.2.ar.length,r_.2.al.length=r_.2.al.length,[(⟨2,1⟩:Part)].length=[(⟨2,1⟩:Part)].length]) (Fn.Vm (args:=[.agg (QJ r_),.agg [.d (aZ none 1 af (GH r_)),.d (aZ none 1 af r_.2.aw),.d (aZ none 1 af r_.2.am),.d (aZ none 1 af r_.2.on_),.d (TK r_),.d (TF r_),.d (aZ none 1 af r_.2.al)],sD (aZ none 3 Transfer.cell [(⟨3,1,2⟩:Transfer)]),sD (aZ none 2 Part.cell [(⟨2,1⟩:Part)])]) (args':=[.agg (JW r_),.agg [.d (aZ (some true) 1 af (GH r_)),.d (Q7 r_),.d (Wh r_),.d (Sm r_),.d (Sn r_),.d (QT r_),.d (Qw r_)],sD (aZ (some true) 3 Transfer.cell [(⟨3,1,2⟩:Transfer)]),sD (aZ (some true) 2 Part.cell [(⟨2,1⟩:Part)])]) (hin:=[]) (Fn.yK [(0,95),(1,96),(2,97),(3,98),(4,99),(5,100),(6,101),(7,102)] (Ag r_.1 (⟨GH r_,r_.2.aw,r_.2.am,r_.2.on_,r_.2.ag,r_.2.ar,r_.2.al⟩:State) [(⟨3,1,2⟩:Transfer)] [(⟨2,1⟩:Part)] hr_6) (by kernel_rfl) (by kernel_rfl) (by kernel_rfl) (by kernel_rfl)) ⟨pJ.agg ⟨fq.refl _,fq.d eu.fT,fq.d eu.fT,fq.d eu.fT,trivial⟩,pJ.agg ⟨fq.d eu.fT,fq.d eu.fT,fq.d eu.fT,fq.d eu.fT,fq.d eu.fT,fq.d eu.fT,fq.d eu.fT,trivial⟩,pJ.one (fq.d eu.fT),pJ.one (fq.d eu.fT),trivial⟩ trivial) (by kernel_rfl) ⟨rfl,rfl,rfl,rfl,rfl,rfl,rfl,rfl,rfl,rfl,rfl,trivial⟩ (by kernel_rfl) ⟨(fun _ _=>rfl),⟨(fun _ _=>rfl),⟨(fun _ _=>rfl),⟨(fun _ _=>rfl),⟨(fun _ _=>rfl),⟨(fun _ _=>rfl),⟨(fun _ _=>rfl),trivial⟩⟩⟩⟩⟩⟩⟩ (by kernel_rfl)):Fn Tryz.prog 21 [.agg (X7 r_),.agg [.own 79 true ((GH r_).length),.own 80 true r_.2.aw.length,.own 81 true r_.2.am.length,.own 82 true r_.2.on_.length,.own 83 true r_.2.ag.length,.own 84 true r_.2.ar.length,.own 85 true r_.2.al.length],sD (aZ (some true) 3 Transfer.cell [(⟨3,1,2⟩:Transfer)]),.one (.own 94 true ([(⟨2,1⟩:Part)].length))] [QN r_,QL r_,Q6 r_,(79,some (aW 4 1 af (GH r_))),QD r_,QC r_,QA r_,RV r_,QS r_,QW r_,(94,some (aW 84 2 Part.cell [(⟨2,1⟩:Part)]))] (.fF [.agg [.own 95 false u4.1.aq.length,.own 96 false u4.1.aw.length,.own 97 false u4.1.am.length,.own 98 false u4.1.on_.length,.own 99 false u4.1.ag.length,.own 100 false u4.1.ar.length,.own 101 false u4.1.al.length],sI u4.2]) [QN r_,QL r_,Q6 r_,(79,some (aW 4 1 af (GH r_))),QD r_,QC r_,QA r_,RV r_,QS r_,QW r_,(94,some (aW 84 2 Part.cell [(⟨2,1⟩:Part)])),(95,some (aW 4 1 af u4.1.aq)),(96,some (aW 4 1 af u4.1.aw)),(97,some (aW 4 1 af u4.1.am)),(98,some (aW 4 1 af u4.1.on_)),(99,some (aW 4 1 af u4.1.ag)),(100,some (aW 4 1 af u4.1.ar)),(101,some (aW 4 1 af u4.1.al)),(102,none)])⟩ fun u4=> .rg {an:=[(4, .arr [(⟨2,1⟩:Part)].length (aj Part.cell [(⟨2,1⟩:Part)]))],fr:=[(4,94),(9,103)],fz:=[95,96,97,98,99,100,101],ts:=[1,2,4,8],hs:=[76,77,78,79,80,81,82,83,84,85,88,89,103]} [.pf ⟨[(⟨2,1⟩:Part)].length=1,rfl⟩, .pf ⟨aF 1 2 (lS 2 [.int .i64 2,.int .i64 1]) (aj Part.cell [(⟨2,1⟩:Part)]),(by intro i hi j hj;match i,j,hi,hj with|0,0,_,_=>rfl|0,1,_,_=>rfl)⟩,0]<| .fz [103]<| .fk (!decide (u4.2=0)) (.rg {ov:=[(2,true,0)],sk:=[3,4,5,6,7],ts:=[1,2,104],hs:=[76,77,78,79,80,81,82,83,84,85,88,89]} []<| .t<| .rg {ts:=[0]} []<| .e false)
  (.cr 6 ⟨fun{v5} hr_7=>((Fn.CW (frz:=[104]) (p:=[[true,false,true].length=[true,false,true].length]) (Fn.le (args':=[sD (aZ none 1 af u4.1.aq),sD (aZ (some true) 1 af [true,false,true])]) (bR u4.1.aq [true,false,true] hr_7) (by exact⟨pJ.refl _,pJ.one (fq.d eu.fT),trivial⟩)) (by kernel_rfl) ⟨rfl,trivial⟩ rfl):Fn Tryz.prog 47 [sD (aZ none 1 af u4.1.aq),.one (.own 104 true ([true,false,true].length))] [(104,some (aW 4 1 af [true,false,true]))] (vB v5) [(104,some (aW 4 1 af [true,false,true]))])⟩ fun v5=> .rg {an:=[(5, .arr [true,false,true].length (aj af [true,false,true]))],fr:=[(5,104)],ov:=[(2,false,1)],ts:=[1,2,104],hs:=[76,77,78,79,80,81,82,83,84,85,88,89]} [.pf ⟨[true,false,true].length=3,rfl⟩, .pf ⟨aF 3 1 (lS 1 [.bool true,.bool false,.bool true]) (aj af [true,false,true]),(by intro i hi j hj;match i,j,hi,hj with|0,0,_,_=>rfl|1,0,_,_=>rfl|2,0,_,_=>rfl)⟩, .k 0]<| .it (.rg {ts:=[0]} []<| .e false)
  (.cl 0 (mr [(0,105),(1,106),(2,107),(3,108),(4,109),(5,110),(6,111),(7,112),(8,113),(9,114),(10,115),(11,116)] (qD 0)) fun u0=> .rg {fz:=[105,106,107],ts:=[1,2],hs:=[88,89,108,109,110,111,112,113,114]} []<| .fz [88]<| .a1 ((0:Int)<=1/\1<(u0.2.aq.length:Int))<| .rg {an:=[(3, .arr 0 (U4 u0))],ts:=[1,2],hs:=[89,108,109,110,111,112,113,114]} [0, .t 0 1 u0.2.aq.length, .pf ⟨aF u0.2.aq.length 1 (nR (aj af u0.2.aq) 1 0 [.bool false]) (U4 u0),dB _ _ _ _ _ _ _ _ rfl (fun j hj=>(match j,hj with|0,_=>rfl))⟩]<| .im (.ll 108 u0.2.aq (uJ u0))<| .cl 4 ⟨fun{u1} hr_9=>((Fn.uj (frz:=[108,109,110,111,112,113,114,117]) (p:=[(uJ u0).length=(uJ u0).length,u0.2.aw.length=u0.2.aw.length,u0.2.am.length=u0.2.am.length,u0.2.on_.length=u0.2.on_.length,u0.2.ag.length=u0.2.ag.length,u0.2.ar.length=u0.2.ar.length,u0.2.al.length=u0.2.al.length,[(⟨3,-1,2⟩:Transfer)].length=[(⟨3,-1,2⟩:Transfer)].length]) (Fn.Vm (args:=[.agg (QJ u0),.agg (abe u0),sD (aZ none 3 Transfer.cell [(⟨3,-1,2⟩:Transfer)])]) (args':=[.agg (JW u0),.agg (aad u0),sD (aZ (some true) 3 Transfer.cell [(⟨3,-1,2⟩:Transfer)])]) (hin:=[]) (Fn.yK [(0,118),(1,119),(2,120),(3,121),(4,122),(5,123),(6,124),(7,125),(8,126)] (jD u0.1 (Yw u0) [(⟨3,-1,2⟩:Transfer)] hr_9) (by kernel_rfl) (by kernel_rfl) (by kernel_rfl) (by kernel_rfl)) ⟨pJ.agg ⟨fq.refl _,fq.d eu.fT,fq.d eu.fT,fq.d eu.fT,trivial⟩,pJ.agg ⟨fq.d eu.fT,fq.d eu.fT,fq.d eu.fT,fq.d eu.fT,fq.d eu.fT,fq.d eu.fT,fq.d eu.fT,trivial⟩,pJ.one (fq.d eu.fT),trivial⟩ trivial) (by kernel_rfl) ⟨rfl,rfl,rfl,rfl,rfl,rfl,rfl,rfl,trivial⟩ (by kernel_rfl) ⟨(fun _ _=>rfl),⟨(fun _ _=>rfl),⟨(fun _ _=>rfl),⟨(fun _ _=>rfl),⟨(fun _ _=>rfl),⟨(fun _ _=>rfl),⟨(fun _ _=>rfl),⟨(fun _ _=>rfl),trivial⟩⟩⟩⟩⟩⟩⟩⟩ (by kernel_rfl)):Fn Tryz.prog 13 [.agg (JW u0),.agg [.own 108 true ((uJ u0).length),.own 109 true u0.2.aw.length,.own 110 true u0.2.am.length,.own 111 true u0.2.on_.length,.own 112 true u0.2.ag.length,.own 113 true u0.2.ar.length,.own 114 true u0.2.al.length],.one (.own 117 true ([(⟨3,-1,2⟩:Transfer)].length))] [(108,some (aW 4 1 af (uJ u0))),VB u0,V6 u0,(111,some (aW 4 1 af u0.2.on_)),Xt u0,WN u0,V7 u0,(117,some (aW 46 3 Transfer.cell [(⟨3,-1,2⟩:Transfer)]))] (.fF [.agg [.own 118 false u1.1.aq.length,.own 119 false u1.1.aw.length,.own 120 false u1.1.am.length,.own 121 false u1.1.on_.length,.own 122 false u1.1.ag.length,.own 123 false u1.1.ar.length,.own 124 false u1.1.al.length],.one (.own 125 false u1.2.1.length),sI u1.2.2]) [(108,some (aW 4 1 af (uJ u0))),VB u0,V6 u0,(111,some (aW 4 1 af u0.2.on_)),Xt u0,WN u0,V7 u0,(117,some (aW 46 3 Transfer.cell [(⟨3,-1,2⟩:Transfer)])),(118,some (aW 4 1 af u1.1.aq)),(119,some (aW 4 1 af u1.1.aw)),(120,some (aW 4 1 af u1.1.am)),(121,some (aW 4 1 af u1.1.on_)),(122,some (aW 4 1 af u1.1.ag)),(123,some (aW 4 1 af u1.1.ar)),(124,some (aW 4 1 af u1.1.al)),(125,some (aW 3 1 (aH .i64) u1.2.1)),(126,none)])⟩ fun u1=> .rg {an:=[(3, .arr [(⟨3,-1,2⟩:Transfer)].length (aj Transfer.cell [(⟨3,-1,2⟩:Transfer)]))],fr:=[(3,117),(9,127)],fz:=[118,119,120,121,122,123,124,125],ts:=[1,2,4,9,10],hs:=[89,108,109,110,111,112,113,114,127]} [.pf ⟨[(⟨3,-1,2⟩:Transfer)].length=1,rfl⟩, .pf ⟨aF 1 3 (lS 3 [.int .i64 3,.int .i64 (-1),.int .i64 2]) (aj Transfer.cell [(⟨3,-1,2⟩:Transfer)]),(by intro i hi j hj;match i,j,hi,hj with|0,0,_,_=>rfl|0,1,_,_=>rfl|0,2,_,_=>rfl)⟩,0]<| .fz [127]<| .rg {an:=[(0, .arr [false,false,true].length (aj af [false,false,true]))],fr:=[(0,128)],ts:=[1,2,4,9,10],hs:=[89,109,110,111,112,113,114,128]} [.pf ⟨[false,false,true].length=3,rfl⟩, .pf ⟨aF 3 1 (lS 1 [.bool false,.bool false,.bool true]) (aj af [false,false,true]),(by intro i hi j hj;match i,j,hi,hj with|0,0,_,_=>rfl|1,0,_,_=>rfl|2,0,_,_=>rfl)⟩]<| .cl 5 ⟨fun{u2} hr_10=>((Fn.uj (frz:=[128,109,110,111,112,113,114,129]) (p:=[[false,false,true].length=[false,false,true].length,u0.2.aw.length=u0.2.aw.length,u0.2.am.length=u0.2.am.length,u0.2.on_.length=u0.2.on_.length,u0.2.ag.length=u0.2.ag.length,u0.2.ar.length=u0.2.ar.length,u0.2.al.length=u0.2.al.length,[(⟨3,2,1⟩:Transfer),(⟨2,-1,0⟩:Transfer)].length=[(⟨3,2,1⟩:Transfer),(⟨2,-1,0⟩:Transfer)].length]) (Fn.Vm (args:=[.agg (QJ u0),.agg [.d (aZ none 1 af [false,false,true]),.d (aZ none 1 af u0.2.aw),.d (aZ none 1 af u0.2.am),.d (aZ none 1 af u0.2.on_),.d (TK u0),.d (TF u0),.d (aZ none 1 af u0.2.al)],sD (aZ none 3 Transfer.cell [(⟨3,2,1⟩:Transfer),(⟨2,-1,0⟩:Transfer)])]) (args':=[.agg (JW u0),.agg [.d (aZ (some true) 1 af [false,false,true]),.d (Q7 u0),.d (Wh u0),.d (Sm u0),.d (Sn u0),.d (QT u0),.d (Qw u0)],sD (aZ (some true) 3 Transfer.cell [(⟨3,2,1⟩:Transfer),(⟨2,-1,0⟩:Transfer)])]) (hin:=[]) (Fn.yK [(0,130),(1,131),(2,132),(3,133),(4,134),(5,135),(6,136),(7,137),(8,138)] (jD u0.1 (⟨[false,false,true],u0.2.aw,u0.2.am,u0.2.on_,u0.2.ag,u0.2.ar,u0.2.al⟩:State) [(⟨3,2,1⟩:Transfer),(⟨2,-1,0⟩:Transfer)] hr_10) (by kernel_rfl) (by kernel_rfl) (by kernel_rfl) (by kernel_rfl)) ⟨pJ.agg ⟨fq.refl _,fq.d eu.fT,fq.d eu.fT,fq.d eu.fT,trivial⟩,pJ.agg ⟨fq.d eu.fT,fq.d eu.fT,fq.d eu.fT,fq.d eu.fT,fq.d eu.fT,fq.d eu.fT,fq.d eu.fT,trivial⟩,pJ.one (fq.d eu.fT),trivial⟩ trivial) (by kernel_rfl) ⟨rfl,rfl,rfl,rfl,rfl,rfl,rfl,rfl,trivial⟩ (by kernel_rfl) ⟨(fun _ _=>rfl),⟨(fun _ _=>rfl),⟨(fun _ _=>rfl),⟨(fun _ _=>rfl),⟨(fun _ _=>rfl),⟨(fun _ _=>rfl),⟨(fun _ _=>rfl),⟨(fun _ _=>rfl),trivial⟩⟩⟩⟩⟩⟩⟩⟩ (by kernel_rfl)):Fn Tryz.prog 13 [.agg (JW u0),.agg [.own 128 true ([false,false,true].length),.own 109 true u0.2.aw.length,.own 110 true u0.2.am.length,.own 111 true u0.2.on_.length,.own 112 true u0.2.ag.length,.own 113 true u0.2.ar.length,.own 114 true u0.2.al.length],.one (.own 129 true ([(⟨3,2,1⟩:Transfer),(⟨2,-1,0⟩:Transfer)].length))] [(128,some (aW 4 1 af [false,false,true])),VB u0,V6 u0,(111,some (aW 4 1 af u0.2.on_)),Xt u0,WN u0,V7 u0,aak] (.fF [.agg [.own 130 false u2.1.aq.length,.own 131 false u2.1.aw.length,.own 132 false u2.1.am.length,.own 133 false u2.1.on_.length,.own 134 false u2.1.ag.length,.own 135 false u2.1.ar.length,.own 136 false u2.1.al.length],.one (.own 137 false u2.2.1.length),sI u2.2.2]) [(128,some (aW 4 1 af [false,false,true])),VB u0,V6 u0,(111,some (aW 4 1 af u0.2.on_)),Xt u0,WN u0,V7 u0,aak,(130,some (aW 4 1 af u2.1.aq)),(131,some (aW 4 1 af u2.1.aw)),(132,some (aW 4 1 af u2.1.am)),(133,some (aW 4 1 af u2.1.on_)),(134,some (aW 4 1 af u2.1.ag)),(135,some (aW 4 1 af u2.1.ar)),(136,some (aW 4 1 af u2.1.al)),(137,some (aW 3 1 (aH .i64) u2.2.1)),(138,none)])⟩ fun u2=> .rg {an:=[(4, .arr [(⟨3,2,1⟩:Transfer),(⟨2,-1,0⟩:Transfer)].length (aj Transfer.cell [(⟨3,2,1⟩:Transfer),(⟨2,-1,0⟩:Transfer)]))],fr:=[(4,129),(10,139)],fz:=[130,131,132,133,134,135,136,137],ts:=[1,2,4,6,9,10,11,12],hs:=[89,109,110,111,112,113,114,128,139]} [.pf ⟨[(⟨3,2,1⟩:Transfer),(⟨2,-1,0⟩:Transfer)].length=2,rfl⟩, .pf ⟨aF 2 3 (lS 3 [.int .i64 3,.int .i64 2,.int .i64 1,.int .i64 2,.int .i64 (-1),.int .i64 0]) (aj Transfer.cell [(⟨3,2,1⟩:Transfer),(⟨2,-1,0⟩:Transfer)]),(by intro i hi j hj;match i,j,hi,hj with|0,0,_,_=>rfl|0,1,_,_=>rfl|0,2,_,_=>rfl|1,0,_,_=>rfl|1,1,_,_=>rfl|1,2,_,_=>rfl)⟩,0]<| .fz [139]<| .rg {an:=[(0, .arr [true,false,false].length (aj af [true,false,false]))],fr:=[(0,140)],ts:=[1,2,4,6,9,10,11,12],hs:=[89,109,110,111,112,113,114,140]} [.pf ⟨[true,false,false].length=3,rfl⟩, .pf ⟨aF 3 1 (lS 1 [.bool true,.bool false,.bool false]) (aj af [true,false,false]),(by intro i hi j hj;match i,j,hi,hj with|0,0,_,_=>rfl|1,0,_,_=>rfl|2,0,_,_=>rfl)⟩]<| .a1 ((0:Int)<=0/\0<(u0.2.am.length:Int))<| .rg {an:=[(3, .arr 0 (aj af (u0.2.am.set 0 true)))],fz:=[109,110,111,112,113,114,140],ts:=[1,2,4,6,9,10,11,12],hs:=[89]} [0, .t 0 0 u0.2.am.length, .pf ⟨aF u0.2.am.length 1 (nR (aj af u0.2.am) 0 0 [.bool true]) (aj af (u0.2.am.set 0 true)),dB _ _ _ _ _ _ _ _ rfl (fun j hj=>(match j,hj with|0,_=>rfl))⟩]<| .im (.uh 89 (some (.cells 29 [.d (aZ (some true) 1 af [true,false,false]),.d (Q7 u0),.d (.sl (some true) 1 u0.2.am.length (aj af (u0.2.am.set 0 true))),.d (Sm u0),.d (Sn u0),.d (QT u0),.d (Qw u0)])) (some (.cells 29 (Za u0))) (IZ ⟨fq.refl _,fq.refl _,fq.d (eu.slN (by first|rw [cd,d_]|simp only [cL,d_,CO]) (.inr rfl) (fun _ _ _ _=> .refl _)),fq.refl _,fq.refl _,fq.refl _,fq.refl _,trivial⟩))<| .fz [89]<| .cl 5 ⟨fun{u3} hr_11=>((Fn.uj (frz:=[141]) (p:=[[(⟨2,-1,2⟩:Transfer),(⟨3,-1,1⟩:Transfer)].length=[(⟨2,-1,2⟩:Transfer),(⟨3,-1,1⟩:Transfer)].length]) (Fn.Vm (args:=[.agg (QJ u0),.agg [.d (aZ none 1 af [true,false,false]),.d (aZ none 1 af u0.2.aw),.d (aZ none 1 af (u0.2.am.set 0 true)),.d (aZ none 1 af u0.2.on_),.d (TK u0),.d (TF u0),.d (aZ none 1 af u0.2.al)],sD (aZ none 3 Transfer.cell [(⟨2,-1,2⟩:Transfer),(⟨3,-1,1⟩:Transfer)])]) (args':=[.agg (JW u0),.agg (Za u0),sD (aZ (some true) 3 Transfer.cell [(⟨2,-1,2⟩:Transfer),(⟨3,-1,1⟩:Transfer)])]) (hin:=[]) (Fn.yK [(0,142),(1,143),(2,144),(3,145),(4,146),(5,147),(6,148),(7,149),(8,150)] (jD u0.1 (⟨[true,false,false],u0.2.aw,u0.2.am.set 0 true,u0.2.on_,u0.2.ag,u0.2.ar,u0.2.al⟩:State) [(⟨2,-1,2⟩:Transfer),(⟨3,-1,1⟩:Transfer)] hr_11) (by kernel_rfl) (by kernel_rfl) (by kernel_rfl) (by kernel_rfl)) ⟨pJ.agg ⟨fq.refl _,fq.d eu.fT,fq.d eu.fT,fq.d eu.fT,trivial⟩,pJ.agg ⟨fq.d eu.fT,fq.d eu.fT,fq.d eu.fT,fq.d eu.fT,fq.d eu.fT,fq.d eu.fT,fq.d eu.fT,trivial⟩,pJ.one (fq.d eu.fT),trivial⟩ trivial) (by kernel_rfl) ⟨rfl,trivial⟩ (by kernel_rfl) ⟨(fun _ _=>rfl),⟨(fun _ _=>rfl),⟨(fun _ _=>rfl),⟨(fun _ _=>rfl),⟨(fun _ _=>rfl),⟨(fun _ _=>rfl),⟨(fun _ _=>rfl),⟨(fun _ _=>rfl),trivial⟩⟩⟩⟩⟩⟩⟩⟩ (by kernel_rfl)):Fn Tryz.prog 13 [.agg (JW u0),.agg (Za u0),.one (.own 141 true ([(⟨2,-1,2⟩:Transfer),(⟨3,-1,1⟩:Transfer)].length))] [abH] (.fF [.agg [.own 142 false u3.1.aq.length,.own 143 false u3.1.aw.length,.own 144 false u3.1.am.length,.own 145 false u3.1.on_.length,.own 146 false u3.1.ag.length,.own 147 false u3.1.ar.length,.own 148 false u3.1.al.length],.one (.own 149 false u3.2.1.length),sI u3.2.2]) [abH,(142,some (aW 4 1 af u3.1.aq)),(143,some (aW 4 1 af u3.1.aw)),(144,some (aW 4 1 af u3.1.am)),(145,some (aW 4 1 af u3.1.on_)),(146,some (aW 4 1 af u3.1.ag)),(147,some (aW 4 1 af u3.1.ar)),(148,some (aW 4 1 af u3.1.al)),(149,some (aW 3 1 (aH .i64) u3.2.1)),(150,none)])⟩ fun u3=> .rg {an:=[(4, .arr [(⟨2,-1,2⟩:Transfer),(⟨3,-1,1⟩:Transfer)].length (aj Transfer.cell [(⟨2,-1,2⟩:Transfer),(⟨3,-1,1⟩:Transfer)]))],fr:=[(4,141),(10,151)],fz:=[142,143,144,145,146,147,148,149],ts:=[4,6,9,10,11,12,13,14,15],hs:=[151]} [.pf ⟨[(⟨2,-1,2⟩:Transfer),(⟨3,-1,1⟩:Transfer)].length=2,rfl⟩, .pf ⟨aF 2 3 (lS 3 [.int .i64 2,.int .i64 (-1),.int .i64 2,.int .i64 3,.int .i64 (-1),.int .i64 1]) (aj Transfer.cell [(⟨2,-1,2⟩:Transfer),(⟨3,-1,1⟩:Transfer)]),(by intro i hi j hj;match i,j,hi,hj with|0,0,_,_=>rfl|0,1,_,_=>rfl|0,2,_,_=>rfl|1,0,_,_=>rfl|1,1,_,_=>rfl|1,2,_,_=>rfl)⟩,0]<| .fz [151]<| .fk (bif (bif (decide (u1.2.2=0))then(decide (u2.2.2=0))else false)then(decide (u3.2.2=0))else false) (.cr 13 ⟨fun{u6} hr_12=>((Fn.CW (frz:=[152]) (p:=[[0].length=[0].length]) (Fn.le (args':=[sD (QM u1),sD (aZ (some true) 1 (aH .i64) [0])]) (qm u1.2.1 [0] hr_12) (by exact⟨pJ.refl _,pJ.one (fq.d eu.fT),trivial⟩)) (by kernel_rfl) ⟨rfl,trivial⟩ rfl):Fn Tryz.prog 20 [sD (QM u1),.one (.own 152 true ([0].length))] [(152,some (aW 3 1 (aH .i64) [0]))] (vB u6) [(152,some (aW 3 1 (aH .i64) [0]))])⟩ fun u6=> .fk (bif (bif u6 then(decide ((u1.1.aq.length:Int)=3))else false)then(at' u1.1.aq 2)else false) (.cr 30 ⟨fun{v0} hr_13=>((Fn.CW (frz:=[153]) (p:=[[0,1].length=[0,1].length]) (Fn.le (args':=[sD (QM u2),sD (aZ (some true) 1 (aH .i64) [0,1])]) (qm u2.2.1 [0,1] hr_13) (by exact⟨pJ.refl _,pJ.one (fq.d eu.fT),trivial⟩)) (by kernel_rfl) ⟨rfl,trivial⟩ rfl):Fn Tryz.prog 20 [sD (QM u2),.one (.own 153 true ([0,1].length))] [(153,some (aW 3 1 (aH .i64) [0,1]))] (vB v0) [(153,some (aW 3 1 (aH .i64) [0,1]))])⟩ fun v0=> .fk v0 (.cr 36 ⟨fun{v1} hr_14=>((Fn.CW (frz:=[154]) (p:=[[true,true,false].length=[true,true,false].length]) (Fn.le (args':=[sD (aZ none 1 af u2.1.aq),sD (aZ (some true) 1 af [true,true,false])]) (bR u2.1.aq [true,true,false] hr_14) (by exact⟨pJ.refl _,pJ.one (fq.d eu.fT),trivial⟩)) (by kernel_rfl) ⟨rfl,trivial⟩ rfl):Fn Tryz.prog 47 [sD (aZ none 1 af u2.1.aq),.one (.own 154 true ([true,true,false].length))] [(154,some (aW 4 1 af [true,true,false]))] (vB v1) [(154,some (aW 4 1 af [true,true,false]))])⟩ fun v1=> .fk v1 (.cr 41 ⟨fun{v2} hr_15=>((Fn.CW (frz:=[155]) (p:=[[1,0].length=[1,0].length]) (Fn.le (args':=[sD (QM u3),sD (aZ (some true) 1 (aH .i64) [1,0])]) (qm u3.2.1 [1,0] hr_15) (by exact⟨pJ.refl _,pJ.one (fq.d eu.fT),trivial⟩)) (by kernel_rfl) ⟨rfl,trivial⟩ rfl):Fn Tryz.prog 20 [sD (QM u3),.one (.own 155 true ([1,0].length))] [(155,some (aW 3 1 (aH .i64) [1,0]))] (vB v2) [(155,some (aW 3 1 (aH .i64) [1,0]))])⟩ fun v2=> .fk v2 (.cr 47 ⟨fun{v3} hr_16=>((Fn.CW (frz:=[156]) (p:=[[true,true,true].length=[true,true,true].length]) (Fn.le (args':=[sD (aZ none 1 af u3.1.aq),sD (aZ (some true) 1 af [true,true,true])]) (bR u3.1.aq [true,true,true] hr_16) (by exact⟨pJ.refl _,pJ.one (fq.d eu.fT),trivial⟩)) (by kernel_rfl) ⟨rfl,trivial⟩ rfl):Fn Tryz.prog 47 [sD (aZ none 1 af u3.1.aq),.one (.own 156 true ([true,true,true].length))] [(156,some (aW 4 1 af [true,true,true]))] (vB v3) [(156,some (aW 4 1 af [true,true,true]))])⟩ fun v3=> .a1 (Um u1 u6)<| .rg {an:=[(12, .arr [0].length (aj (aH .i64) [0])),(29, .arr [0,1].length (aj (aH .i64) [0,1])),(35, .arr [true,true,false].length (aj af [true,true,false])),(40, .arr [1,0].length (aj (aH .i64) [1,0])),(46, .arr [true,true,true].length (aj af [true,true,true]))],fr:=[(12,152),(29,153),(35,154),(40,155),(46,156)],ov:=[(10,true,10),(27,true,8),(32,true,6),(38,true,4),(43,true,2)],ts:=[0]} [.pf ⟨[0].length=1,rfl⟩, .pf ⟨aF 1 1 (lS 1 [.int .i64 0]) (aj (aH .i64) [0]),(by intro i hi j hj;match i,j,hi,hj with|0,0,_,_=>rfl)⟩, .k 9,0, .pf ⟨[0,1].length=2,rfl⟩, .pf ⟨aF 2 1 (lS 1 [.int .i64 0,.int .i64 1]) (aj (aH .i64) [0,1]),(by intro i hi j hj;match i,j,hi,hj with|0,0,_,_=>rfl|1,0,_,_=>rfl)⟩, .k 7, .pf ⟨[true,true,false].length=3,rfl⟩, .pf ⟨aF 3 1 (lS 1 WK) (aj af [true,true,false]),(by intro i hi j hj;match i,j,hi,hj with|0,0,_,_=>rfl|1,0,_,_=>rfl|2,0,_,_=>rfl)⟩, .k 5, .pf ⟨[1,0].length=2,rfl⟩, .pf ⟨aF 2 1 (lS 1 [.int .i64 1,.int .i64 0]) (aj (aH .i64) [1,0]),(by intro i hi j hj;match i,j,hi,hj with|0,0,_,_=>rfl|1,0,_,_=>rfl)⟩, .k 3, .pf ⟨[true,true,true].length=3,rfl⟩, .pf ⟨aF 3 1 (lS 1 [.bool true,.bool true,.bool true]) (aj af [true,true,true]),(by intro i hi j hj;match i,j,hi,hj with|0,0,_,_=>rfl|1,0,_,_=>rfl|2,0,_,_=>rfl)⟩, .k 1]<| .e v3)
  (.a1 (Um u1 u6)<| .rg {an:=[(12, .arr [0].length (aj (aH .i64) [0])),(29, .arr [0,1].length (aj (aH .i64) [0,1])),(35, .arr [true,true,false].length (aj af [true,true,false])),(40, .arr [1,0].length (aj (aH .i64) [1,0]))],fr:=[(12,152),(29,153),(35,154),(40,155)],ov:=[(10,true,9),(27,true,7),(32,true,5),(38,true,3),(43,false,1)],sk:=[44,45,46,47],ts:=[0]} [.pf ⟨[0].length=1,rfl⟩, .pf ⟨aF 1 1 (lS 1 [.int .i64 0]) (aj (aH .i64) [0]),(by intro i hi j hj;match i,j,hi,hj with|0,0,_,_=>rfl)⟩, .k 8,0, .pf ⟨[0,1].length=2,rfl⟩, .pf ⟨aF 2 1 (lS 1 [.int .i64 0,.int .i64 1]) (aj (aH .i64) [0,1]),(by intro i hi j hj;match i,j,hi,hj with|0,0,_,_=>rfl|1,0,_,_=>rfl)⟩, .k 6, .pf ⟨[true,true,false].length=3,rfl⟩, .pf ⟨aF 3 1 (lS 1 WK) (aj af [true,true,false]),(by intro i hi j hj;match i,j,hi,hj with|0,0,_,_=>rfl|1,0,_,_=>rfl|2,0,_,_=>rfl)⟩, .k 4, .pf ⟨[1,0].length=2,rfl⟩, .pf ⟨aF 2 1 (lS 1 [.int .i64 1,.int .i64 0]) (aj (aH .i64) [1,0]),(by intro i hi j hj;match i,j,hi,hj with|0,0,_,_=>rfl|1,0,_,_=>rfl)⟩, .k 2]<| .e false))
  (.a1 (Um u1 u6)<| .rg {an:=[(12, .arr [0].length (aj (aH .i64) [0])),(29, .arr [0,1].length (aj (aH .i64) [0,1])),(35, .arr [true,true,false].length (aj af [true,true,false]))],fr:=[(12,152),(29,153),(35,154)],ov:=[(10,true,7),(27,true,5),(32,true,3),(38,false,1)],sk:=[39,40,41,44,45,46,47],ts:=[0]} [.pf ⟨[0].length=1,rfl⟩, .pf ⟨aF 1 1 (lS 1 [.int .i64 0]) (aj (aH .i64) [0]),(by intro i hi j hj;match i,j,hi,hj with|0,0,_,_=>rfl)⟩, .k 6,0, .pf ⟨[0,1].length=2,rfl⟩, .pf ⟨aF 2 1 (lS 1 [.int .i64 0,.int .i64 1]) (aj (aH .i64) [0,1]),(by intro i hi j hj;match i,j,hi,hj with|0,0,_,_=>rfl|1,0,_,_=>rfl)⟩, .k 4, .pf ⟨[true,true,false].length=3,rfl⟩, .pf ⟨aF 3 1 (lS 1 WK) (aj af [true,true,false]),(by intro i hi j hj;match i,j,hi,hj with|0,0,_,_=>rfl|1,0,_,_=>rfl|2,0,_,_=>rfl)⟩, .k 2]<| .e false))
  (.a1 (Um u1 u6)<| .rg {an:=[(12, .arr [0].length (aj (aH .i64) [0])),(29, .arr [0,1].length (aj (aH .i64) [0,1]))],fr:=[(12,152),(29,153)],ov:=[(10,true,5),(27,true,3),(32,false,1)],sk:=[33,34,35,36,39,40,41,44,45,46,47],ts:=[0]} [.pf ⟨[0].length=1,rfl⟩, .pf ⟨aF 1 1 (lS 1 [.int .i64 0]) (aj (aH .i64) [0]),(by intro i hi j hj;match i,j,hi,hj with|0,0,_,_=>rfl)⟩, .k 4,0, .pf ⟨[0,1].length=2,rfl⟩, .pf ⟨aF 2 1 (lS 1 [.int .i64 0,.int .i64 1]) (aj (aH .i64) [0,1]),(by intro i hi j hj;match i,j,hi,hj with|0,0,_,_=>rfl|1,0,_,_=>rfl)⟩, .k 2]<| .e false))
  (.a1 (Um u1 u6)<| .rg {an:=[(12, .arr [0].length (aj (aH .i64) [0]))],fr:=[(12,152)],ov:=[(10,true,3),(27,false,1)],sk:=[28,29,30,33,34,35,36,39,40,41,44,45,46,47],ts:=[0]} [.pf ⟨[0].length=1,rfl⟩, .pf ⟨aF 1 1 (lS 1 [.int .i64 0]) (aj (aH .i64) [0]),(by intro i hi j hj;match i,j,hi,hj with|0,0,_,_=>rfl)⟩, .k 2,0]<| .e false))
  (.rg {ov:=[(10,false,0)],sk:=[11,12,13,16,17,18,19,22,23,24,25,28,29,30,33,34,35,36,39,40,41,44,45,46,47],ts:=[0]} []<| .e false)))))))
theorem dz (l:List Bool):dN Tryz.prog 55 [sD (aZ none 1 af l)] [] (fun r=>(vO 0 false r.length)) (fun r=>[(0,some (aW 4 1 af r))]) (dG l):=
  eF tT mX Tryz.func55 (
  .r<| .r<| .a2 (l.length*1<=140737488355328) (l.length<=4611686018427387904)<| .rg {an:=[(2, .arr l.length (aj af l))],fr:=[(2,1)]} [0,1, .e (l.length), .pf ⟨aF l.length 1 (aj af l) (aj af l),mI _ _ _⟩]<| .en l [] [(1,0)])
section
variable (r_:Bool) (u0:Bool) (u1:Bool) (u2:Bool) (u3:Bool) (u4:Bool)
abbrev aan:=(bif (k7 r_ u0 u1 u2 u3)then u4 else false)
end
theorem BN (a:State) (b:State):dN Tryz.prog 19 [.agg (k23 a),.agg (k23 b)] [] (fun r=>(vB r)) (fun _=>[]) (oH a b):=
  eF tT mX Tryz.func19 (
  .rg {fr:=[(0,2),(1,3)],fz:=[2,3]} []<| .cl 4 (bR a.aq b.aq) fun r_=> .cg 10 [(r_,true)] (bR a.aw b.aw) fun u0=> .cg 17 [((bif r_ then u0 else false),true)] (bR a.am b.am) fun u1=> .cg 24 [((bif (bif r_ then u0 else false)then u1 else false),true)] (bR a.on_ b.on_) fun u2=> .cg 31 [((bif (bif (bif r_ then u0 else false)then u1 else false)then u2 else false),true)] (bR a.ag b.ag) fun u3=> .cg 38 [(k7 r_ u0 u1 u2 u3,true)] (bR a.ar b.ar) fun u4=> .cg 45 [(aan r_ u0 u1 u2 u3 u4,true)] (bR a.al b.al) fun u5=> .r<| .e (bif (aan r_ u0 u1 u2 u3 u4)then u5 else false))
theorem EH (p:ah) (x:Link):dN Tryz.prog 117 [.agg (k1 p),.agg (k12 x)] [] (fun r=>(vB r)) (fun _=>[]) (sP p x):=
  eF tT mX Tryz.func117 (
  .rg {fr:=[(0,6),(1,7)],fz:=[6]} []<| .r<| .it (.r<| .e false)
  (.r<| .it (.r<| .e false)
  (.r<| .lp (σ:=Int) (β:=Unit) (0) [] [] ⟨[3],[7],fun i=>[(5,vI i)],fun i=>[]⟩ ⟨[],[],fun _=>[],fun _=>[]⟩
  (fun i=> .r<| .it (.a1 ((0:Int)<=i/\i<(x.trip.length:Int))<| .rg {fr:=[(5,11)],fz:=[11]} []<| .r<| .it (.r<| .e (.done (.ret false)))
  (.a2 ((gB [(decide (0<i),true)]=true->(0:Int)<=(k6 i)/\(k6 i)<(x.trip.length:Int))) ((gB [k13 x i,(decide (0<i),true)]=true->(0:Int)<=(k6 i)/\(k6 i)<(x.trip.length:Int)))<| .rg {} [0,1]<| .it (.r<| .e (.done (.ret false)))
  (.r<| .e (.next (k11 i)))))
  (.e (.done (.brk ()))))
  (fun _=> .r<| .e true))))
theorem qL (p:ah):dN Tryz.prog 62 (k0 p) [] (fun r=>(vI r)) (fun _=>[]) (lI p):=
  eF tT mX Tryz.func62 (
  .rg {fr:=[(0,9)]} []<| .r<| .it (.r<| .e 10)
  (.r<| .it (.r<| .e 11)
  (.r<| .lp (σ:=Int) (β:=Unit) (0) [] [] ⟨[1],[9],fun i=>[(3,vI i)],fun i=>[]⟩ ⟨[1],[9],fun _=>[],fun _=>[]⟩
  (fun i=> .r<| .it (.a1 (k76 i p)<| .rg {fr:=[(5,13)],fz:=[13]} []<| .r<| .it (.r<| .e (.done (.ret 11)))
  (.r<| .e (.next (k11 i))))
  (.e (.done (.brk ()))))
  (fun _=> .r<| .it (.r<| .e 12)
  (.r<| .lp (σ:=Int) (β:=Unit) (0) [] [] ⟨[1],[9],fun i1=>[(5,vI i1)],fun i1=>[]⟩ ⟨[1],[9],fun _=>[],fun _=>[]⟩
  (fun i1=> .r<| .it (.cl 6 (EH p (at' p.ae i1.toNat)) fun r_=> .a1 (Zd p i1)<| .rg {} [0,1]<| .it (.r<| .e (.done (.ret 12)))
  (.r<| .e (.next (k11 i1))))
  (.e (.done (.brk ()))))
  (fun _=> .r<| .it (.r<| .e 13)
  (.r<| .lp (σ:=Int) (β:=Unit) (0) [] [] ⟨[1],[9],fun i2=>[(6,vI i2)],fun i2=>[]⟩ ⟨[],[],fun _=>[],fun _=>[]⟩
  (fun i2=> .r<| .it (.a1 (Qe p i2)<| .rg {fr:=[(5,17)],fz:=[17]} []<| .rg {} [.pf ⟨(0:Int)<=0/\(0:Int)<(2:Nat),(by decide)⟩, .pf ⟨(0:Int)<=1/\(1:Int)<(2:Nat),(by decide)⟩]<| .r<| .r<| .it (.r<| .r<| .it (.r<| .e (.done (.ret 13)))
  (.r<| .e (.next (k11 i2))))
  (.r<| .it (.r<| .e (.done (.ret 13)))
  (.r<| .e (.next (k11 i2)))))
  (.e (.done (.brk ()))))
  (fun _=> .r<| .e 0))))))))
theorem G5 (p:ah):dN Tryz.prog 25 (k0 p) [] (fun r=>(vB r)) (fun _=>[]) (o7 p):=
  eF tT mX Tryz.func25 (
  .rg {fr:=[(0,1)],fz:=[1]} []<| .r<| .it (.r<| .e true)
  (.cl 1 (qL p) fun r_=> .r<| .e (bif (decide (r_=0))then(bif (decide (7<p.ap))then true else(decide (12<(p.ae.length:Int))))else false)))
theorem yA (l:List kJ):dN Tryz.prog 168 [sD (aZ none 2 kJ.cell l)] [] (fun r=>(vO 0 false r.length)) (fun r=>[(0,some (aW 211 2 kJ.cell r))]) (rT l):=
  eF tT mX Tryz.func168 (
  .r<| .r<| .a2 (l.length*16<=140737488355328) (l.length<=4611686018427387904)<| .rg {an:=[(2, .arr l.length (aj kJ.cell l))],fr:=[(2,1)]} [0,1, .e (l.length), .pf ⟨aF l.length 2 (aj kJ.cell l) (aj kJ.cell l),mI _ _ _⟩]<| .en l [] [(1,0)])
theorem Dr (x:Link):dN Tryz.prog 118 [.agg (k12 x)] [] (fun r=>(.v (.agg [cI r.a,cI r.b,cI r.kind,cI r.most,cI r.ohm,.d (aZ none 2 kJ.cell r.trip)]))) (fun _=>[]) (qi x):=
  eF tT mX Tryz.func118 (
  .rg {fr:=[(0,3),(1,4)]} []<| .cl 12 (mr [(0,5)] (yA x.trip)) fun r_=> .rg {fz:=[5]} []<| .fz [4]<| .e (⟨x.a,x.b,x.kind,x.most,x.ohm,r_⟩:Link))
theorem wJ (l:List Source):dN Tryz.prog 63 [sD (k3 l)] [] (fun r=>(vO 0 false r.length)) (fun r=>[(0,some (aW 125 5 Source.cell r))]) (pO l):=
  eF tT mX Tryz.func63 (
  .r<| .r<| .a2 (l.length*40<=140737488355328) (l.length<=4611686018427387904)<| .rg {an:=[(2, .arr l.length (aj Source.cell l))],fr:=[(2,1)]} [0,1, .e (l.length), .pf ⟨aF l.length 5 (aj Source.cell l) (aj Source.cell l),mI _ _ _⟩]<| .en l [] [(1,0)])
theorem yG (l:List Link):dN Tryz.prog 64 [sD (k4 l)] [] (fun r=>(vO 0 false r.length)) (fun r=>[(0,some (aW 113 6 Link.cell r))]) (rX l):=
  eF tT mX Tryz.func64 (
  .r<| .r<| .r<| .im (.ad 3 16 113 6 (aj Link.cell ([]:List Link)))<| .lp (σ:=((List Link) × Int)) (β:=(List Link)) (([]:List Link),0) [] [(16,9)] ⟨[0],[],fun(u0,i)=>[(3,vO 9 false u0.length),(4,vI i)],fun(u0,i)=>[(9,some (aW 113 6 Link.cell u0))]⟩ ⟨[],[],fun u1=>[(3,vO 9 false u1.length)],fun u1=>[(9,some (aW 113 6 Link.cell u1))]⟩
  (fun(u0,i)=> .r<| .it (.cl 5 (Dr (at' l i.toNat)) fun r_=> .a3 (k16 l i) ((u0.length+[r_].length)*64<=140737488355328) (u0.length+[r_].length<=4611686018427387904)<| .rg {an:=[(6, .arr [r_].length (aj Link.cell [r_])),(7, .arr (u0++[r_]).length (aj Link.cell (u0++[r_])))],fr:=[(6,14),(7,15)]} [0,3, .pf ⟨[r_].length=1,rfl⟩, .pf ⟨aF 1 6 (lS 6 [.int .i64 r_.a,.int .i64 r_.b,.int .i64 r_.kind,.int .i64 r_.most,.int .i64 r_.ohm,aZ none 2 kJ.cell r_.trip]) (aj Link.cell [r_]),(by intro i hi j hj;match i,j,hi,hj with|0,0,_,_=>rfl|0,1,_,_=>rfl|0,2,_,_=>rfl|0,3,_,_=>rfl|0,4,_,_=>rfl|0,5,_,_=>rfl)⟩, .e (u0.length),1,2, .pf ⟨(u0++[r_]).length=u0.length+[r_].length,cd⟩, .pf ⟨aF (u0.length+[r_].length) 6 (nY (aj Link.cell u0) u0.length (aj Link.cell [r_])) (aj Link.cell (u0++[r_])),bD _ _ _ _⟩]<| .r<| .en (.next (u0++[r_],k11 i)) [] [(15,9)])
  (.e (.done (.brk u0))))
  (fun u1=> .r<| .en u1 [] [(9,0)]))
theorem yu (l:List aL):dN Tryz.prog 65 [sD (k5 l)] [] (fun r=>(vO 0 false r.length)) (fun r=>[(0,some (aW 100 4 aL.cell r))]) (rU l):=
  eF tT mX Tryz.func65 (
  .r<| .r<| .a2 (l.length*32<=140737488355328) (l.length<=4611686018427387904)<| .rg {an:=[(2, .arr l.length (aj aL.cell l))],fr:=[(2,1)]} [0,1, .e (l.length), .pf ⟨aF l.length 4 (aj aL.cell l) (aj aL.cell l),mI _ _ _⟩]<| .en l [] [(1,0)])
theorem Ic (x:Int) (n:Int):dN Tryz.prog 27 [sI x,sI n] [] (fun r=>(vI r)) (fun _=>[]) (xA x n):=
  eF tT mX Tryz.func27 (
  .r<| .r<| .it (.r<| .e 0)
  (.a1 (n≠(0:Int))<| .r<| .r<| .it (.r<| .r<| .e (IntKind.wrap .i64 ((Int.tmod x n)+n)))
  (.r<| .e (Int.tmod x n))))
theorem Em (p:ah) (s_:State):dN Tryz.prog 164 (k22 s_ p) [] (fun r=>(vB r)) (fun _=>[]) (qN p s_):=
  eF tT mX Tryz.func164 (
  .rg {fr:=[(0,2),(1,3)],fz:=[2,3]} []<| .r<| .r<| .it (.r<| .e false)
  (.r<| .lp (σ:=Int) (β:=Unit) (0) [] [] ⟨[2,3,5],[],fun i=>[(8,vI i)],fun i=>[]⟩ ⟨[],[],fun _=>[],fun _=>[]⟩
  (fun i=> .r<| .it (.a3 (Zd p i) (k32 s_ p i) (k33 s_ p i)<| .rg {} [0,1,2]<| .it (.r<| .e (.done (.ret false)))
  (.r<| .e (.next (k11 i))))
  (.e (.done (.brk ()))))
  (fun _=> .r<| .e true)))
theorem lW (p:ah) (s_:State):dN Tryz.prog 110 (k22 s_ p) [] (fun r=>(vI r)) (fun _=>[]) (gG p s_):=
  eF tT mX Tryz.func110 (
  .rg {fr:=[(0,2),(1,3)],fz:=[2,3]} []<| .cl 1 (qL p) fun r_=> .r<| .cg 5 [(decide (r_=0),true)] (Em p s_) fun u0=> .r<| .it (.r<| .r<| .e 9)
  (.r<| .e r_))
theorem mK (p:ah) (s_:State) (u0:Int):dN Tryz.prog 66 (CJ p s_ u0) [] (fun r=>(vI r)) (fun _=>[]) (eG p s_ u0):=
  eF tT mX Tryz.func66 (
  .rg {fr:=[(0,2),(1,3)],fz:=[2,3]} []<| .cl 2 (lW p s_) fun r_=> .r<| .r<| .it (.r<| .r<| .e 13)
  (.r<| .e r_))
theorem qG (p:ah) (s_:State) (kz:Int):dN Tryz.prog 119 (CJ p s_ kz) [] (fun r=>(vB r)) (fun _=>[]) (lN p s_ kz):=
  eF tT mX Tryz.func119 (
  .rg {fr:=[(0,2),(1,3)],fz:=[2,3]} []<| .a4 ((0:Int)<=kz/\kz<(s_.on_.length:Int)) (k77 kz s_) ((gB [((bif (at' s_.on_ kz.toNat)then(!(at' s_.ag kz.toNat))else false),true)]=true->(0:Int)<=kz/\kz<(p.aa.length:Int))) (k78 kz p s_)<| .rg {} [0,1,2,3]<| .e (bif (bif (at' s_.on_ kz.toNat)then(!(at' s_.ag kz.toNat))else false)then(!(at' s_.al (((at' p.aa kz.toNat).bus).toNat)))else false))
theorem BJ (l:List Part):dN Tryz.prog 83 [sD (DF l)] [] (fun r=>(vD (aZ none 2 Part.cell r))) (fun _=>[]) (ic l):=
  eF tT mX Tryz.func83 (
  .r<| .r<| .a2 (l.length*16<=140737488355328) (l.length<=4611686018427387904)<| .rg {an:=[(2, .arr l.length (aj Part.cell l))],fr:=[(2,1)],fz:=[1]} [0,1, .e (l.length), .pf ⟨aF l.length 2 (aj Part.cell l) (aj Part.cell l),mI _ _ _⟩]<| .e l)
theorem qV (l:List Part) (x:Part):dN Tryz.prog 121 (Yo l x) [] (fun r=>(vB r)) (fun _=>[]) (oU l x):=
  eF tT mX Tryz.func121 (
  .rg {fr:=[(0,1)],fz:=[1]} []<| .r<| .lp (σ:=Int) (β:=Unit) (0) [] [] ⟨[0,3],[],fun i=>[(5,vI i)],fun i=>[]⟩ ⟨[],[],fun _=>[],fun _=>[]⟩
  (fun i=> .r<| .it (.a1 (zF l i)<| .r<| .it (.r<| .e (.done (.ret true)))
  (.r<| .e (.next (k11 i))))
  (.e (.done (.brk ()))))
  (fun _=> .r<| .e false))
section
variable (s_:State) (i:Int) (p:ah)
abbrev aaE:=(bif (bif (at' s_.aq i.toNat)then(!(at' s_.am i.toNat))else false)then(!(at' s_.al (((at' p.ae i.toNat).a).toNat)))else false)
abbrev aav:=(aaE s_ i p,true)
end
theorem jX (p:ah) (s_:State) (i:Int):dN Tryz.prog 129 (CJ p s_ i) [] (fun r=>(vB r)) (fun _=>[]) (gJ p s_ i):=
  eF tT mX Tryz.func129 (
  .rg {fr:=[(0,2),(1,3)],fz:=[2,3]} []<| .a6 ((0:Int)<=i/\i<(s_.aq.length:Int)) ((gB [(at' s_.aq i.toNat,true)]=true->(0:Int)<=i/\i<(s_.am.length:Int))) ((gB [((bif (at' s_.aq i.toNat)then(!(at' s_.am i.toNat))else false),true)]=true->(0:Int)<=i/\i<(p.ae.length:Int))) ((gB [((bif (at' s_.aq i.toNat)then(!(at' s_.am i.toNat))else false),true)]=true->(0:Int)<=(at' p.ae i.toNat).a/\(at' p.ae i.toNat).a<(s_.al.length:Int))) ((gB [aav s_ i p]=true->(0:Int)<=i/\i<(p.ae.length:Int))) ((gB [aav s_ i p]=true->(0:Int)<=(at' p.ae i.toNat).b/\(at' p.ae i.toNat).b<(s_.al.length:Int)))<| .rg {} [0,1,2,3,4,5]<| .e (bif (aaE s_ i p)then(!(at' s_.al (((at' p.ae i.toNat).b).toNat)))else false))
theorem yc (p:ah) (u0:Int) (b:Int):dN Tryz.prog 130 [.agg (k1 p),sI u0,sI b] [] (fun r=>(vB r)) (fun _=>[]) (qh p u0 b):=
  eF tT mX Tryz.func130 (
  .rg {fr:=[(0,1)],fz:=[1]} []<| .a2 (Qe p u0) ((gB [(decide ((Iy p u0)=b),false)]=true->(0:Int)<=u0/\u0<(p.a_.length:Int)))<| .rg {} [0, .pf ⟨(0:Int)<=0/\(0:Int)<(2:Nat),(by decide)⟩,1, .pf ⟨(0:Int)<=1/\(1:Int)<(2:Nat),(by decide)⟩]<| .e (bif (decide ((Iy p u0)=b))then true else(decide ((JK p u0)=b))))
theorem qE (l:List Part):dN Tryz.prog 83 [sD (DF l)] [] (fun r=>(vO 0 false r.length)) (fun r=>[(0,some (aW 84 2 Part.cell r))]) (ic l):=
  eF tT mX Tryz.func83 (
  .r<| .r<| .a2 (l.length*16<=140737488355328) (l.length<=4611686018427387904)<| .rg {an:=[(2, .arr l.length (aj Part.cell l))],fr:=[(2,1)]} [0,1, .e (l.length), .pf ⟨aF l.length 2 (aj Part.cell l) (aj Part.cell l),mI _ _ _⟩]<| .en l [] [(1,0)])
section
variable (p:ah) (s_:State) (u6:Int) (l:List Part) (i:Int) (u2:List Part) (u0:List (List Part)) (u4:List (List Part))
abbrev Uw:List SV:=[.agg (k1 p),.agg (k23 s_),sI u6,sD (DF l)]
abbrev abg:=(IntKind.wrap .i64 ((IntKind.wrap .i64 (((at' p.ae i.toNat).a)+((at' p.ae i.toNat).b))) - ((at' l ((IntKind.wrap .i64 ((l.length:Int) - 1)).toNat)).index)))
abbrev EO:=(⟨1,abg p l i⟩:Part)
abbrev Yk:=(u2.length+[(⟨3,i⟩:Part),EO p l i].length)
abbrev aah:=((Yk p l i u2)*16<=140737488355328)
abbrev aaI:=(u2.length+[(⟨3,i⟩:Part),EO p l i].length<=4611686018427387904)
abbrev U6:=(aj Part.cell [(⟨3,i⟩:Part),EO p l i])
abbrev Oa:=(u2++[(⟨3,i⟩:Part),EO p l i])
abbrev VX:=(aj Part.cell (Oa p l i u2))
abbrev Z6:=(lS 2 [.int .i64 3,.int .i64 i,.int .i64 1,.int .i64 (abg p l i)])
abbrev aa4:=(nY (aj Part.cell u2) u2.length (U6 p l i))
abbrev Ro:=(aj (wC 2 Part.cell) (u0++u4))
abbrev Zc:=(nY (aj (wC 2 Part.cell) u0) u0.length (aj (wC 2 Part.cell) u4))
end
theorem Bz (u9:ah->State->Int->(List Part)->Option (List (List Part))) (rec_ok: ∀(p:ah) (s_:State) (u6:Int) (l:List Part) (r:List (List Part)),u9 p s_ u6 l=some r->Fn Tryz.prog 120 (Uw p s_ u6 l) [] ((fun r=>(vD (aZ none 1 (wC 2 Part.cell) r))) r) ((fun _=>[]) r)) (p:ah) (s_:State) (u6:Int) (l:List Part):dN Tryz.prog 120 (Uw p s_ u6 l) [] (fun r=>(vD (aZ none 1 (wC 2 Part.cell) r))) (fun _=>[]) (oI u9 p s_ u6 l):=
  eF tT mX Tryz.func120 (
  .rg {fr:=[(0,52),(1,53)],fz:=[53]} []<| .r<| .a1 ((0:Int)<=(IntKind.wrap .i64 ((l.length:Int) - 1))/\(IntKind.wrap .i64 ((l.length:Int) - 1))<(l.length:Int))<| .r<| .cl 3 (yc p u6 ((at' l ((IntKind.wrap .i64 ((l.length:Int) - 1)).toNat)).index)) fun r_=> .r<| .it (.a2 ([l].length*24<=140737488355328) ([l].length<=4611686018427387904)<| .rg {an:=[(2, .arr [l].length (Gm l)),(3, .arr [l].length (Gm l))],fr:=[(2,54),(3,55)]} [.pf ⟨[l].length=1,rfl⟩, .pf ⟨aF 1 1 (lS 1 [DF l]) (Gm l),(by intro i hi j hj;match i,j,hi,hj with|0,0,_,_=>rfl)⟩,0,1, .e ([l].length), .pf ⟨aF [l].length 1 (Gm l) (Gm l),mI _ _ _⟩]<| .r<| .lp (σ:=((List (List Part)) × Int)) (β:=(List (List Part))) ([l],0) [] [] ⟨[2,3,4,5,10],[52],fun(u0,i)=>[(9,vO 55 false u0.length),(11,vI i)],fun(u0,i)=>[(55,some (Ii u0))]⟩ ⟨[],[],fun u7=>[(9,vO 55 false u7.length)],fun u7=>[(55,some (Ii u7))]⟩
  (fun(u0,i)=> .r<| .it (.a1 (Zd p i)<| .rg {fr:=[(5,74)],fz:=[74]} []<| .cl 3 (jX p s_ i) fun v0=> .r<| .it (.r<| .e (.next (u0,k11 i)))
  (.rg {fr:=[(8,75)],fz:=[75]} []<| .cl 2 (qV l (EO p l i)) fun v1=> .r<| .it (.r<| .e (.next (u0,k11 i)))
  (.cl 1 (mr [(0,76)] (qE l)) fun u2=> .a2 (aah p l i u2) (aaI p l i u2)<| .rg {an:=[(5, .arr [(⟨3,i⟩:Part),EO p l i].length (U6 p l i)),(6, .arr (Oa p l i u2).length (VX p l i u2))],fr:=[(5,77),(6,78)],fz:=[78]} [2, .pf ⟨[(⟨3,i⟩:Part),EO p l i].length=2,rfl⟩, .pf ⟨aF 2 2 (Z6 p l i) (U6 p l i),(by intro i hi j hj;match i,j,hi,hj with|0,0,_,_=>rfl|0,1,_,_=>rfl|1,0,_,_=>rfl|1,1,_,_=>rfl)⟩, .e (u2.length),0,1, .pf ⟨(Oa p l i u2).length=u2.length+[(⟨3,i⟩:Part),EO p l i].length,cd⟩, .pf ⟨aF (Yk p l i u2) 2 (aa4 p l i u2) (VX p l i u2),bD _ _ _ _⟩]<| .cl 5 ⟨fun h=>rec_ok p s_ u6 (Oa p l i u2) _ h⟩ fun u4=> .a2 ((u0.length+u4.length)*24<=140737488355328) (u0.length+u4.length<=4611686018427387904)<| .rg {an:=[(6, .arr (u0++u4).length (Ro u0 u4))],fr:=[(6,79)]} [2, .e (u0.length),0,1, .pf ⟨(u0++u4).length=u0.length+u4.length,cd⟩, .pf ⟨aF (u0.length+u4.length) 1 (Zc u0 u4) (Ro u0 u4),bD _ _ _ _⟩]<| .r<| .en (.next (u0++u4,k11 i)) [] [(79,55)])))
  (.e (.done (.brk u0))))
  (fun u7=> .rg {fz:=[55]} []<| .e u7))
  (.r<| .im (.ad 9 104 48 1 (aj (wC 2 Part.cell) ([]:List (List Part))))<| .lp (σ:=((List (List Part)) × Int)) (β:=(List (List Part))) (([]:List (List Part)),0) [] [(104,85)] ⟨[2,3,4,5,10],[52],fun(u1,i1)=>[(9,vO 85 false u1.length),(11,vI i1)],fun(u1,i1)=>[(85,some (Ii u1))]⟩ ⟨[],[],fun u8=>[(9,vO 85 false u8.length)],fun u8=>[(85,some (Ii u8))]⟩
  (fun(u1,i1)=> .r<| .it (.a1 (Zd p i1)<| .rg {fr:=[(5,98)],fz:=[98]} []<| .cl 3 (jX p s_ i1) fun v2=> .r<| .it (.r<| .e (.next (u1,k11 i1)))
  (.rg {fr:=[(8,99)],fz:=[99]} []<| .cl 2 (qV l (EO p l i1)) fun v3=> .r<| .it (.r<| .e (.next (u1,k11 i1)))
  (.cl 1 (mr [(0,100)] (qE l)) fun u3=> .a2 (aah p l i1 u3) (aaI p l i1 u3)<| .rg {an:=[(5, .arr [(⟨3,i1⟩:Part),EO p l i1].length (U6 p l i1)),(6, .arr (Oa p l i1 u3).length (VX p l i1 u3))],fr:=[(5,101),(6,102)],fz:=[102]} [2, .pf ⟨[(⟨3,i1⟩:Part),EO p l i1].length=2,rfl⟩, .pf ⟨aF 2 2 (Z6 p l i1) (U6 p l i1),(by intro i hi j hj;match i,j,hi,hj with|0,0,_,_=>rfl|0,1,_,_=>rfl|1,0,_,_=>rfl|1,1,_,_=>rfl)⟩, .e (u3.length),0,1, .pf ⟨(Oa p l i1 u3).length=u3.length+[(⟨3,i1⟩:Part),EO p l i1].length,cd⟩, .pf ⟨aF (Yk p l i1 u3) 2 (aa4 p l i1 u3) (VX p l i1 u3),bD _ _ _ _⟩]<| .cl 5 ⟨fun h=>rec_ok p s_ u6 (Oa p l i1 u3) _ h⟩ fun u5=> .a2 ((u1.length+u5.length)*24<=140737488355328) (u1.length+u5.length<=4611686018427387904)<| .rg {an:=[(6, .arr (u1++u5).length (Ro u1 u5))],fr:=[(6,103)]} [2, .e (u1.length),0,1, .pf ⟨(u1++u5).length=u1.length+u5.length,cd⟩, .pf ⟨aF (u1.length+u5.length) 1 (Zc u1 u5) (Ro u1 u5),bD _ _ _ _⟩]<| .r<| .en (.next (u1++u5,k11 i1)) [] [(103,85)])))
  (.e (.done (.brk u1))))
  (fun u8=> .rg {fz:=[85]} []<| .e u8)))
theorem AY: ∀(n:Nat) (p:ah) (s_:State) (u0:Int) (l:List Part),dN Tryz.prog 120 (Uw p s_ u0 l) [] (fun r=>(vD (aZ none 1 (wC 2 Part.cell) r))) (fun _=>[]) (iQ n p s_ u0 l)
 |0,_,_,_,_=> ⟨fun h=>by cases h⟩
 |n+1,p,s_,u0,l=>Bz (iQ n) (fun p s_ u0 l _ h=>AY n p s_ u0 l h) p s_ u0 l
section
variable (p:ah) (kz:Int)
abbrev RB:=(⟨1,(at' p.aa kz.toNat).bus⟩:Part)
end
theorem Gn (p:ah) (s_:State) (u3:Int):dN Tryz.prog 67 (CJ p s_ u3) [] (fun r=>(vD (aZ none 1 (wC 2 Part.cell) r))) (fun _=>[]) (vv p s_ u3):=
  eF tT mX Tryz.func67 (
  .rg {fr:=[(0,10),(1,11)],fz:=[10,11]} []<| .r<| .r<| .im (.ad 7 20 48 1 (aj (wC 2 Part.cell) ([]:List (List Part))))<| .lp (σ:=((List (List Part)) × Int)) (β:=(List (List Part))) (([]:List (List Part)),0) [] [(20,13)] ⟨[2,3,4],[],fun(u0,kz)=>[(7,vO 13 false u0.length),(8,vI kz)],fun(u0,kz)=>[(13,some (Ii u0))]⟩ ⟨[],[],fun u2=>[(7,vO 13 false u2.length)],fun u2=>[(13,some (Ii u2))]⟩
  (fun(u0,kz)=> .r<| .it (.cl 3 (qG p s_ kz) fun r_=> .r<| .it (.cl 14 (leO [.agg (k1 p),.agg (k23 s_),sI u3,sD (aZ (some true) 2 Part.cell [(⟨2,kz⟩:Part),RB p kz])] (AY FUEL p s_ u3 [(⟨2,kz⟩:Part),RB p kz])) fun u1=> .a3 (k76 kz p) ((u0.length+u1.length)*24<=140737488355328) (u0.length+u1.length<=4611686018427387904)<| .rg {an:=[(13, .frz [(⟨2,kz⟩:Part),RB p kz].length (aj Part.cell [(⟨2,kz⟩:Part),RB p kz])),(15, .arr (u0++u1).length (Ro u0 u1))],fr:=[(15,19)]} [0, .pf ⟨[(⟨2,kz⟩:Part),RB p kz].length=2,rfl⟩, .pf ⟨aF 2 2 (lS 2 [.int .i64 2,.int .i64 kz,.int .i64 1,.int .i64 ((at' p.aa kz.toNat).bus)]) (aj Part.cell [(⟨2,kz⟩:Part),RB p kz]),(by intro i hi j hj;match i,j,hi,hj with|0,0,_,_=>rfl|0,1,_,_=>rfl|1,0,_,_=>rfl|1,1,_,_=>rfl)⟩,3, .e (u0.length),1,2, .pf ⟨(u0++u1).length=u0.length+u1.length,cd⟩, .pf ⟨aF (u0.length+u1.length) 1 (Zc u0 u1) (Ro u0 u1),bD _ _ _ _⟩]<| .r<| .en (.next (u0++u1,k11 kz)) [] [(19,13)])
  (.r<| .e (.next (u0,k11 kz))))
  (.e (.done (.brk u0))))
  (fun u2=> .rg {fz:=[13]} []<| .e u2))
theorem r9 (a:List Part) (b:List Part):dN Tryz.prog 68 [sD (DF a),sD (DF b)] [] (fun r=>(vB r)) (fun _=>[]) (kI a b):=
  eF tT mX Tryz.func68 (
  .r<| .r<| .lp (σ:=Int) (β:=Unit) (0) [] [] ⟨[0,1],[],fun i=>[(5,vI i)],fun i=>[]⟩ ⟨[],[],fun _=>[],fun _=>[]⟩
  (fun i=> .r<| .it (.cl 5 (qV b (at' a i.toNat)) fun r_=> .a1 (zF a i)<| .rg {} [0,1]<| .it (.r<| .e (.done (.ret false)))
  (.r<| .e (.next (k11 i))))
  (.e (.done (.brk ()))))
  (fun _=> .r<| .e true))
section
variable (i:Int) (u0:List (List Part))
abbrev Iu:=((0:Int)<=i/\i<(u0.length:Int))
end
theorem Av (p:ah) (s_:State) (u1:Int):dN Tryz.prog 29 (CJ p s_ u1) [] (fun r=>(.fF [sI r.1,sI r.2])) (fun _=>[]) (iL p s_ u1):=
  eF tT mX Tryz.func29 (
  .rg {fr:=[(0,2),(1,3)],fz:=[2,3]} []<| .cl 3 (mK p s_ u1) fun r_=> .r<| .r<| .it (.r<| .e (0,r_))
  (.cl 3 (Gn p s_ u1) fun u0=> .r<| .r<| .lp (σ:=Int) (β:=Unit) (0) [] [] ⟨[9],[],fun i=>[(10,vI i)],fun i=>[]⟩ ⟨[9],[],fun _=>[],fun _=>[]⟩
  (fun i=> .r<| .it (.r<| .lp (σ:=Int) (β:=Unit) (0) [] [] ⟨[9,10],[],fun kz=>[(11,vI kz)],fun kz=>[]⟩ ⟨[9,10],[],fun _=>[],fun _=>[]⟩
  (fun kz=> .r<| .it (.cl 8 (r9 (at' u0 i.toNat) (at' u0 kz.toNat)) fun u2=> .a2 (Iu i u0) (Iu kz u0)<| .rg {} [0,1,2]<| .it (.r<| .e (.done (.ret (.done (.ret (2,0))))))
  (.r<| .e (.next (k11 kz))))
  (.e (.done (.brk ()))))
  (fun _=> .r<| .e (.next (k11 i))))
  (.e (.done (.brk ()))))
  (fun _=> .r<| .e ((if 1<(u0.length:Int)then 1 else(u0.length:Int)),0))))
section
variable (l:List Part) (i:Int) (u0:Int) (p:ah)
abbrev ZH:=((bif (!decide (((at' l i.toNat).kind)=1))then true else(!decide (((at' l i.toNat).index)=u0))),false)
abbrev ZW:List SV:=[sD (aZ none 2 Part.cell (nW l 0 i.toNat)),.agg [cI ((at' l i.toNat).kind),cI ((at' l i.toNat).index)]]
abbrev Xq:List SV:=[sD (.sl none 2 i.toNat (aj Part.cell l)),.agg [cI ((at' l i.toNat).kind),cI ((at' l i.toNat).index)]]
abbrev OQ:=(at' p.ae (((at' l i.toNat).index).toNat))
abbrev DJ:=(IntKind.wrap .i64 ((IntKind.wrap .i64 (((OQ l i p).a)+((OQ l i p).b))) - u0))
end
theorem DL (p:ah) (s_:State) (u2:Int) (l:List Part):dN Tryz.prog 73 (Uw p s_ u2 l) [] (fun r=>(vB r)) (fun _=>[]) (lJ p s_ u2 l):=
  eF tT mX Tryz.func73 (
  .rg {fr:=[(0,9),(1,10)],fz:=[10]} []<| .a1 ((gB [(decide ((l.length:Int)=0),false)]=true->2≠(0:Int)))<| .r<| .it (.r<| .e false)
  (.r<| .r<| .lp (σ:=(Int × Int)) (β:=Int) (-1,0) [] [] ⟨[2,3,4,5],[9],fun(u0,i)=>[(9,vI u0),(10,vI i)],fun(u0,i)=>[]⟩ ⟨[2,4],[9],fun u1=>[(9,vI u1)],fun u1=>[]⟩
  (fun(u0,i)=> .r<| .it (.a1 (zF l i)<| .rg {fr:=[(4,16)]} []<| .r<| .it (.cg 21 [((bif (bif (!decide (((at' l i.toNat).kind)=2))then true else(decide (((at' l i.toNat).index)<0)))then true else(decide ((p.aa.length:Int)<=((at' l i.toNat).index)))),false)] (qG p s_ ((at' l i.toNat).index)) fun r_=> .rg {fz:=[16]} []<| .it (.r<| .e (.done (.ret false)))
  (.a1 ((0:Int)<=(at' l i.toNat).index/\(at' l i.toNat).index<(p.aa.length:Int))<| .r<| .r<| .e (.next ((at' p.aa (((at' l i.toNat).index).toNat)).bus,k11 i))))
  (.a1 (2≠(0:Int))<| .r<| .it (.cg 14 [ZH l i u0] ⟨fun{u3} hr_1=>((Fn.Vm (args:=(ZW l i)) (args':=(Xq l i)) (hin:=[]) (hin':=[]) (qV (nW l 0 i.toNat) (at' l i.toNat) hr_1) ⟨pJ.one (fq.d (eu.slN (by first|rw [cd,d_]|simp only [cL,d_,CO]) (.inr rfl) (TY _ _ _ _))),pJ.refl _,trivial⟩ trivial):Fn Tryz.prog 121 (Xq l i) [] (vB u3) [])⟩ fun u3=> .a1 ((gB [ZH l i u0]=true->(0:Int)<=i/\i<=(l.length:Int)))<| .rg {} [0,1]<| .it (.r<| .e (.done (.ret false)))
  (.r<| .e (.next (u0,k11 i))))
  (.cg 21 [((bif (bif (!decide (((at' l i.toNat).kind)=3))then true else(decide (((at' l i.toNat).index)<0)))then true else(decide ((p.ae.length:Int)<=((at' l i.toNat).index)))),false)] (jX p s_ ((at' l i.toNat).index)) fun u5=> .r<| .it (.r<| .e (.done (.ret false)))
  (.a1 ((0:Int)<=(at' l i.toNat).index/\(at' l i.toNat).index<(p.ae.length:Int))<| .rg {fr:=[(6,17)],fz:=[17]} []<| .r<| .it (.r<| .e (.done (.ret false)))
  (.r<| .r<| .e (.next (DJ l i u0 p,k11 i)))))))
  (.e (.done (.brk u0))))
  (fun u1=> .cl 3 (yc p u2 u1) fun u4=> .r<| .e u4)))
section
variable (p:ah) (s_:State) (u0:Int) (l:List (List Part))
abbrev X5:List SV:=[.agg (k1 p),.agg (k23 s_),sI u0,sD (aZ none 1 (wC 2 Part.cell) l)]
end
theorem rA (p:ah) (s_:State) (u0:Int) (l:List (List Part)):dN Tryz.prog 31 (X5 p s_ u0 l) [] (fun r=>(vI r)) (fun _=>[]) (fJ p s_ u0 l):=
  eF tT mX Tryz.func31 (
  .rg {fr:=[(0,2),(1,3)],fz:=[2,3]} []<| .cl 3 (mK p s_ u0) fun r_=> .r<| .r<| .it (.r<| .e r_)
  (.r<| .lp (σ:=Int) (β:=Unit) (0) [] [] ⟨[2,3,4,5],[],fun i=>[(10,vI i)],fun i=>[]⟩ ⟨[],[],fun _=>[],fun _=>[]⟩
  (fun i=> .r<| .it (.cl 7 (DL p s_ u0 (at' l i.toNat)) fun u1=> .a1 (Iu i l)<| .rg {} [0,1]<| .it (.r<| .e (.done (.ret 7)))
  (.r<| .lp (σ:=Int) (β:=Unit) (0) [] [] ⟨[2,3,4,5,10],[],fun kz=>[(11,vI kz)],fun kz=>[]⟩ ⟨[2,3,4,5,10],[],fun _=>[],fun _=>[]⟩
  (fun kz=> .r<| .it (.cl 8 (r9 (at' l i.toNat) (at' l kz.toNat)) fun u2=> .a2 (Iu i l) (Iu kz l)<| .rg {} [0,1,2]<| .it (.r<| .e (.done (.ret (.done (.ret 7)))))
  (.r<| .e (.next (k11 kz))))
  (.e (.done (.brk ()))))
  (fun _=> .r<| .e (.next (k11 i)))))
  (.e (.done (.brk ()))))
  (fun _=> .r<| .e 0)))
theorem oQ (l:List Bool) (i:Int) (is:Bool):dN Tryz.prog 115 [sD (aZ none 1 af l),sI i,sB is] [] (fun r=>(vO 0 false r.length)) (fun r=>[(0,some (aW 4 1 af r))]) (nM l i is):=
  eF tT mX Tryz.func115 (
  .r<| .a2 ((([]:List Bool).length+l.length)*1<=140737488355328) (([]:List Bool).length+l.length<=4611686018427387904)<| .rg {an:=[(0, .arr ([]:List Bool).length (aj af ([]:List Bool))),(2, .arr (([]:List Bool)++l).length (k37 l))],fr:=[(0,2),(2,3)]} [.pf ⟨([]:List Bool).length=0,rfl⟩, .pf ⟨aF 0 1 (lS 1 []) (aj af ([]:List Bool)),(fun i hi=>absurd hi (cM i))⟩, .e (([]:List Bool).length),0,1, .pf ⟨(([]:List Bool)++l).length=([]:List Bool).length+l.length,cd⟩, .pf ⟨aF (([]:List Bool).length+l.length) 1 (nY (aj af ([]:List Bool)) ([]:List Bool).length (aj af l)) (k37 l),bD _ _ _ _⟩]<| .a1 ((0:Int)<=i/\i<((([]:List Bool)++l).length:Int))<| .rg {an:=[(4, .arr 0 (aj af ((([]:List Bool)++l).set i.toNat is)))]} [0, .t 0 i ((([]:List Bool)++l).length), .pf ⟨aF (([]:List Bool)++l).length 1 (nR (k37 l) i.toNat 0 [.bool is]) (aj af ((([]:List Bool)++l).set i.toNat is)),dB _ _ _ _ _ _ _ _ rfl (fun j hj=>(match j,hj with|0,_=>rfl))⟩]<| .im (.ll 3 (([]:List Bool)++l) ((([]:List Bool)++l).set i.toNat is))<| .r<| .en ((([]:List Bool)++l).set i.toNat is) [] [(3,0)])
section
variable (p:ah) (b:Int) (u0:List Bool) (i:Int)
abbrev Ws:=((LV p).set b.toNat true)
abbrev NV:=(u0.set (((at' p.ae i.toNat).a).toNat) true)
abbrev X8:=(aj af (NV p u0 i))
abbrev YK:=((NV p u0 i).set (((at' p.ae i.toNat).b).toNat) true)
abbrev ZX:=(aj af (YK p u0 i))
end
theorem DY (p:ah) (s_:State) (b:Int):dN Tryz.prog 165 (CJ p s_ b) [] (fun r=>(vD (aZ none 1 af r))) (fun _=>[]) (lM p s_ b):=
  eF tT mX Tryz.func165 (
  .rg {fr:=[(0,19),(1,20)],fz:=[20]} []<| .a3 ((0:Int)<=p.ap) (k84 p) (k85 p)<| .rg {an:=[(2, .arr (LV p).length (Xb p))],fr:=[(2,21)]} [0, .e ((p.ap:Int)),1,2, .pf ⟨(LV p).length=p.ap.toNat,dC⟩, .pf ⟨aF p.ap.toNat 1 (fun _ j=>[.bool false].getD j .nilp) (Xb p),j6 _ _ _ _ _ (fun j hj=>(match j,hj with|0,_=>rfl))⟩]<| .a1 ((0:Int)<=b/\b<((LV p).length:Int))<| .rg {an:=[(3, .arr 0 (aj af (Ws p b)))]} [0, .t 0 b ((LV p).length), .pf ⟨aF (LV p).length 1 (nR (Xb p) b.toNat 0 [.bool true]) (aj af (Ws p b)),dB _ _ _ _ _ _ _ _ rfl (fun j hj=>(match j,hj with|0,_=>rfl))⟩]<| .im (.ll 21 (LV p) (Ws p b))<| .r<| .lp (σ:=((List Bool) × Int)) (β:=(List Bool)) (Ws p b,0) [] [] ⟨[3,4],[19],fun(u1,n)=>[(7,vO 21 true u1.length),(8,vI n)],fun(u1,n)=>[(21,some (aW 4 1 af u1))]⟩ ⟨[],[],fun u2=>[(7,vO 21 true u2.length)],fun u2=>[(21,some (aW 4 1 af u2))]⟩
  (fun(u1,n)=> .r<| .it (.r<| .lp (σ:=((List Bool) × Int)) (β:=(List Bool)) (u1,0) [] [] ⟨[3,4,8],[19],fun(u0,i)=>[(7,vO 21 true u0.length),(9,vI i)],fun(u0,i)=>[(21,some (aW 4 1 af u0))]⟩ ⟨[3,4,8],[19],fun u3=>[(7,vO 21 true u3.length)],fun u3=>[(21,some (aW 4 1 af u3))]⟩
  (fun(u0,i)=> .r<| .it (.a1 (Zd p i)<| .rg {fr:=[(5,37)]} []<| .cl 3 (jX p s_ i) fun r_=> .a2 ((gB [(r_,true)]=true->(0:Int)<=(at' p.ae i.toNat).a/\(at' p.ae i.toNat).a<(u0.length:Int))) ((gB [(at' u0 (((at' p.ae i.toNat).a).toNat),false),(r_,true)]=true->(0:Int)<=(at' p.ae i.toNat).b/\(at' p.ae i.toNat).b<(u0.length:Int)))<| .rg {} [2,0, .tg 0 [(r_,true)] ((at' p.ae i.toNat).a) u0.length,1, .tg 1 [(at' u0 (((at' p.ae i.toNat).a).toNat),false),(r_,true)] ((at' p.ae i.toNat).b) u0.length]<| .it (.a1 ((0:Int)<=(at' p.ae i.toNat).a/\(at' p.ae i.toNat).a<(u0.length:Int))<| .rg {an:=[(4, .arr 0 (X8 p u0 i))]} [0, .t 0 ((at' p.ae i.toNat).a) u0.length, .pf ⟨aF u0.length 1 (nR (aj af u0) (((at' p.ae i.toNat).a).toNat) 0 [.bool true]) (X8 p u0 i),dB _ _ _ _ _ _ _ _ rfl (fun j hj=>(match j,hj with|0,_=>rfl))⟩]<| .im (.ll 21 u0 (NV p u0 i))<| .a1 ((0:Int)<=(at' p.ae i.toNat).b/\(at' p.ae i.toNat).b<((NV p u0 i).length:Int))<| .rg {an:=[(4, .arr 0 (ZX p u0 i))]} [0, .t 0 ((at' p.ae i.toNat).b) ((NV p u0 i).length), .pf ⟨aF (NV p u0 i).length 1 (nR (X8 p u0 i) (((at' p.ae i.toNat).b).toNat) 0 [.bool true]) (ZX p u0 i),dB _ _ _ _ _ _ _ _ rfl (fun j hj=>(match j,hj with|0,_=>rfl))⟩]<| .im (.ll 21 (NV p u0 i) (YK p u0 i))<| .r<| .e (.next (YK p u0 i,k11 i)))
  (.r<| .e (.next (ZG i u0))))
  (.e (.done (.brk u0))))
  (fun u3=> .r<| .e (.next (ZG n u3))))
  (.e (.done (.brk u1))))
  (fun u2=> .rg {fz:=[21]} []<| .e u2))
section
variable (u0:List Bool) (b:Int) (u2:List Bool)
abbrev WS:=(u0.set b.toNat (bif (at' u0 b.toNat)then true else(at' u2 b.toNat)))
end
theorem EI (p:ah) (s_:State):dN Tryz.prog 112 (k22 s_ p) [] (fun r=>(.fF [sD (aZ none 1 af r.1),sI r.2])) (fun _=>[]) (kW p s_):=
  eF tT mX Tryz.func112 (
  .rg {fr:=[(0,3),(1,4)],fz:=[3,4]} []<| .cl 2 (lW p s_) fun r_=> .r<| .r<| .it (.r<| .e (([]:List Bool),r_))
  (.a3 ((0:Int)<=p.ap) (k84 p) (k85 p)<| .rg {an:=[(2, .arr (LV p).length (Xb p))],fr:=[(2,5)]} [0, .e ((p.ap:Int)),1,2, .pf ⟨(LV p).length=p.ap.toNat,dC⟩, .pf ⟨aF p.ap.toNat 1 (fun _ j=>[.bool false].getD j .nilp) (Xb p),j6 _ _ _ _ _ (fun j hj=>(match j,hj with|0,_=>rfl))⟩]<| .r<| .lp (σ:=((List Bool) × Int)) (β:=(List Bool)) (LV p,0) [] [] ⟨[2,3],[],fun(u1,kz)=>[(7,vO 5 true u1.length),(8,vI kz)],fun(u1,kz)=>[(5,some (aW 4 1 af u1))]⟩ ⟨[],[],fun u3=>[(7,vO 5 true u3.length)],fun u3=>[(5,some (aW 4 1 af u3))]⟩
  (fun(u1,kz)=> .r<| .it (.cl 3 (qG p s_ kz) fun u5=> .r<| .it (.r<| .e (.next (ZG kz u1)))
  (.cl 8 (DY p s_ ((at' p.aa kz.toNat).bus)) fun u2=> .a1 (k76 kz p)<| .rg {} [0,1]<| .r<| .lp (σ:=((List Bool) × Int)) (β:=(List Bool)) (u1,0) [] [] ⟨[2,3,8,9],[],fun(u0,b)=>[(7,vO 5 true u0.length),(10,vI b)],fun(u0,b)=>[(5,some (aW 4 1 af u0))]⟩ ⟨[2,3,8],[],fun u4=>[(7,vO 5 true u4.length)],fun u4=>[(5,some (aW 4 1 af u4))]⟩
  (fun(u0,b)=> .r<| .it (.a2 (YL u0 b) ((gB [(at' u0 b.toNat,false)]=true->(0:Int)<=b/\b<(u2.length:Int)))<| .rg {an:=[(13, .arr 0 (aj af (WS u0 b u2)))]} [0, .t 0 b u0.length,1,0, .t 0 b u0.length, .pf ⟨aF u0.length 1 (nR (aj af u0) b.toNat 0 [.bool (bif (at' u0 b.toNat)then true else(at' u2 b.toNat))]) (aj af (WS u0 b u2)),dB _ _ _ _ _ _ _ _ rfl (fun j hj=>(match j,hj with|0,_=>rfl))⟩]<| .im (.ll 5 u0 (WS u0 b u2))<| .r<| .e (.next (WS u0 b u2,k11 b)))
  (.e (.done (.brk u0))))
  (fun u4=> .r<| .e (.next (ZG kz u4)))))
  (.e (.done (.brk u1))))
  (fun u3=> .rg {fz:=[5]} []<| .e (u3,0))))
section
variable (p:ah) (u0:Int) (r_:(List Bool) × Int) (u1:List aQ)
abbrev aaA:=(bif (decide (0<=(JK p u0)))then(at' r_.1 ((if(rP p u0).e1<0 then 0 else(rP p u0).e1).toNat))else false)
abbrev NW:=(⟨at' r_.1 ((Iy p u0).toNat),aaA p u0 r_⟩:aQ)
abbrev abk:=(u1.length+[NW p u0 r_].length)
abbrev YQ:=(aj aQ.cell [NW p u0 r_])
abbrev WY:=(u1++[NW p u0 r_])
abbrev aac:=(aj aQ.cell (WY p u0 r_ u1))
end
theorem F9 (p:ah) (s_:State):dN Tryz.prog 116 (k22 s_ p) [] (fun r=>(.fF [sD (aZ none 2 aQ.cell r.1),sI r.2])) (fun _=>[]) (vk p s_):=
  eF tT mX Tryz.func116 (
  .rg {fr:=[(0,14),(1,15)],fz:=[15]} []<| .cl 2 (EI p s_) fun r_=> .r<| .r<| .it (.r<| .e (([]:List aQ),r_.2))
  (.r<| .r<| .im (.ad 8 28 95 2 (aj aQ.cell ([]:List aQ)))<| .lp (σ:=((List aQ) × Int)) (β:=(List aQ)) (([]:List aQ),0) [] [(28,18)] ⟨[2,6],[14],fun(u1,u0)=>[(8,vO 18 false u1.length),(9,vI u0)],fun(u1,u0)=>[(18,some (aW 95 2 aQ.cell u1))]⟩ ⟨[],[],fun u2=>[(8,vO 18 false u2.length)],fun u2=>[(18,some (aW 95 2 aQ.cell u2))]⟩
  (fun(u1,u0)=> .r<| .it (.a1 (Qe p u0)<| .rg {fr:=[(6,25)],fz:=[25]} []<| .a4 ((0:Int)<=(rP p u0).e0/\(rP p u0).e0<(r_.1.length:Int)) ((gB [(decide (0<=(JK p u0)),true)]=true->(0:Int)<=(if(rP p u0).e1<0 then 0 else(rP p u0).e1)/\(if(rP p u0).e1<0 then 0 else(rP p u0).e1)<(r_.1.length:Int))) ((abk p u0 r_ u1)*2<=140737488355328) (u1.length+[NW p u0 r_].length<=4611686018427387904)<| .rg {an:=[(18, .arr [NW p u0 r_].length (YQ p u0 r_)),(19, .arr (WY p u0 r_ u1).length (aac p u0 r_ u1))],fr:=[(18,26),(19,27)]} [.pf ⟨(0:Int)<=0/\(0:Int)<(2:Nat),(by decide)⟩,0, .pf ⟨(0:Int)<=1/\(1:Int)<(2:Nat),(by decide)⟩, .pf ⟨(0:Int)<=1/\(1:Int)<(2:Nat),(by decide)⟩,1, .pf ⟨[NW p u0 r_].length=1,rfl⟩, .pf ⟨aF 1 2 (lS 2 [.bool (at' r_.1 ((Iy p u0).toNat)),.bool (aaA p u0 r_)]) (YQ p u0 r_),(by intro i hi j hj;match i,j,hi,hj with|0,0,_,_=>rfl|0,1,_,_=>rfl)⟩, .e (u1.length),2,3, .pf ⟨(WY p u0 r_ u1).length=u1.length+[NW p u0 r_].length,cd⟩, .pf ⟨aF (abk p u0 r_ u1) 2 (nY (aj aQ.cell u1) u1.length (YQ p u0 r_)) (aac p u0 r_ u1),bD _ _ _ _⟩]<| .r<| .en (.next (WY p u0 r_ u1,k11 u0)) [] [(27,18)])
  (.e (.done (.brk u1))))
  (fun u2=> .rg {fz:=[18]} []<| .e (u2,0))))
theorem zm (p:ah) (s_:State) (u0:Int):dN Tryz.prog 61 (CJ p s_ u0) [] (fun r=>(vB r)) (fun _=>[]) (rC p s_ u0):=
  eF tT mX Tryz.func61 (
  .rg {fr:=[(0,2),(1,3)],fz:=[2,3]} []<| .cl 2 (F9 p s_) fun r_=> .r<| .a2 ((0:Int)<=u0/\u0<(r_.1.length:Int)) ((gB [((at' r_.1 u0.toNat).e0,false)]=true->(0:Int)<=u0/\u0<(r_.1.length:Int)))<| .rg {} [0, .pf ⟨(0:Int)<=0/\(0:Int)<(2:Nat),(by decide)⟩,1, .pf ⟨(0:Int)<=1/\(1:Int)<(2:Nat),(by decide)⟩]<| .e (bif (at' r_.1 u0.toNat).e0 then true else(at' r_.1 u0.toNat).e1))
end
end Sg
