import Derived.Test.YtpndenfhglaikaaW0
set_option linter.all false
namespace Sg
open Go Go.Proofs
set_option maxRecDepth 20000
noncomputable section
section
variable (s_:aA) (u4:Int) (u5:List aK) (u6:Int) (u7:Int) (p:au) (p1:List ay) (p2:List aH) (p3:List aK) (u0:List (List Int)) (u1:List bU) (x0:List Int) (x1:List Int) (x2:List aj) (u2:List (Int × Int)) (u3:List (Int × Int)) (u8:List (aj × Int))
abbrev amE:St:=⟨ajP u5 s_ u4 u6 u7,VK p p1 p2 p3 u0 u1 x0 x1 x2 u2 u3 u8⟩
end
def DW (p:au) (s_:aA) (p1:List ay) (x0:List Int) (u2:List (Int × Int)) (p2:List aH) (x1:List Int) (u3:List (Int × Int)) (p3:List aK) (u4:Int) (x2:List aj) (u5:List aK) (u6:Int) (u7:Int):((List bU) × (List (List Int)) × (List (aj × Int)))→St:=
  fun zz=>match zz with|(u1,u0,u8)=>(amE s_ u4 u5 u6 u7 p p1 p2 p3 u0 u1 x0 x1 x2 u2 u3 u8)
def Mw (p:au) (s_:aA) (p1:List ay) (x0:List Int) (u0:List (Int × Int)) (p2:List aH) (x1:List Int) (u1:List (Int × Int)) (p3:List aK) (u2:Int) (x2:List aj) (u3:List aK) (u4:Int) (u5:Int):(aY ((List bU) × (List (List Int)) × (List (aj × Int)) × Int) (Ex ((List bU) × (List (List Int)) × (List (aj × Int))) (aY ((List aK) × Int × (List bU) × (List (List Int)) × (List aj) × (List (aj × Int)) × (List aK) × Int × Int) (Ex ((List aK) × Int × (List bU) × (List (List Int)) × (List aj) × (List (aj × Int))) (aD × (List Bool) × Int)))))→Exit→St→Prop:=
  LQ 6 [5] (DU p s_ p1 x0 u0 p2 x1 u1 p3 u2 x2 u3 u4 u5) (DW p s_ p1 x0 u0 p2 x1 u1 p3 u2 x2 u3 u4 u5) (wh p s_ p1 x0 u0 p2 x1 u1)
section
variable (u0:aN) (p:au) (p1:List ay) (p2:List aH) (u4:List aK) (u2:List Int) (x1:List Int) (u1:List aj) (u3:List (Int × Int)) (u5:List (aj × Int))
abbrev afK:List (Nat × TV):=[(2,vP 63 0),(4,vP 65 0),(9,vP 67 0),(10,vP 72 0),rY,qy,(162,vP 116 0)]
abbrev Bv:Nat × Option Ob:=(67,some (.cells 161 [.own 68 false u0.bP.length,.d (O4 u0)]))
abbrev Co:Nat × Option Ob:=(68,some (bW 170 2 bU.cell u0.bP))
abbrev ai3:List (Nat × Option Ob):=[gm p p1 p2 u4,dL,Bv u0,Co u0,pU u2,rH x1,uM u1,uW u1 u2 x1,Iw u3,Ju u5,(116,none)]
abbrev alE:St:=⟨afK,ai3 u0 p p1 p2 u4 u2 x1 u1 u3 u5⟩
end
def M9 (p:au) (p1:List ay) (p2:List aH) (x1:List Int) (u3:List (Int × Int)) (u4:List aK) (u1:List aj) (u5:List (aj × Int)) (u0:aN):(List Int)→St:=
  fun u2=>(alE u0 p p1 p2 u4 u2 x1 u1 u3 u5)
section
variable (p:au) (p1:List ay) (p2:List aH) (u4:List aK) (u0:aN) (u2:List Int) (u3:List Int) (u1:List aj) (u5:List (aj × Int))
abbrev aim:List (Nat × TV):=[(2,vP 63 0),(4,vP 65 0),(9,vP 67 0),(10,vP 72 0),qy,(182,vP 117 0)]
abbrev alO:List (Nat × Option Ob):=[gm p p1 p2 u4,dL,Bv u0,Co u0,pU u2,rH u3,uM u1,uW u1 u2 u3,Ju u5,(117,none)]
abbrev anm:St:=⟨aim,alO p p1 p2 u4 u0 u2 u3 u1 u5⟩
end
def MB (p:au) (p1:List ay) (p2:List aH) (u4:List aK) (u1:List aj) (u5:List (aj × Int)) (u0:aN) (u2:List Int):(List Int)→St:=
  fun u3=>(anm p p1 p2 u4 u0 u2 u3 u1 u5)
section
variable (p:au) (p1:List ay) (p2:List aH) (u4:List aK) (u0:aN) (u1:List Int) (u2:List Int) (u3:List aj)
abbrev acr:List (Nat × TV):=[(2,vP 63 0),(4,vP 65 0),(9,vP 67 0),(10,vP 72 0),(208,vP 118 0)]
abbrev alW:St:=⟨acr,[gm p p1 p2 u4,dL,Bv u0,Co u0,pU u1,rH u2,uM u3,uW u3 u1 u2,(118,none)]⟩
end
def ME (p:au) (p1:List ay) (p2:List aH) (u4:List aK) (u0:aN) (u1:List Int) (u2:List Int):(List aj)→St:=
  fun u3=>(alW p p1 p2 u4 u0 u1 u2 u3)
section
variable (p:au) (s_:aA) (r_:Int) (v0:Int) (v4:Int × aN) (v8:List (Int × Int)) (u7:Int) (p1:List ay) (v5:Int × aN) (x0:List Int) (u4:List (Int × Int)) (v9:List (Int × Int)) (v7:Int) (u0:Int) (u2:List aK) (w0:Int) (x3:Int × aN) (p2:List aH) (p3:List aK) (x1:List Int) (x2:List aj) (u5:List (Int × Int)) (x9:List (aj × Int)) (v3:Int) (v6:Int × aN) (x5:List bU) (x6:List (List Int)) (u1:aN) (i:Nat) (w5:List Int) (i1:Nat) (w6:List Int) (u3:List (aj × Int)) (i2:Nat) (u9:List aj)
abbrev ad7:List (Nat × Option Ob):=[CJ p,dL]
abbrev akz:St:=⟨[(2,vP 63 0),k10 s_,(4,vP 65 0)],ad7 p⟩
abbrev amM:St:=⟨[(2,vP 63 0),k10 s_,(4,vP 65 0),(7,vI r_)],ad7 p⟩
abbrev aju:St:=⟨[(2,vP 63 0),k10 s_,(4,vP 65 0),(7,vI r_),(34,vB (!decide (r_=0)))],ad7 p⟩
abbrev aeC:DV:=(bJ none 1 (aT .i64) ([]:List Int))
abbrev anI:St:=⟨[(2,vP 63 0),k10 s_,(4,vP 65 0),qf p],ad7 p⟩
abbrev adO:List (Nat × TV):=[(2,vP 63 0),k10 s_,(4,vP 65 0),qf p,(9,vP 67 0)]
abbrev adA:=(IntKind.wrap .i64 ((IntKind.wrap .i64 ((IntKind.wrap .i64 ((1:Int)+p.ax))+(p.af.length:Int)))+1))
abbrev aaH:=((adA p).toNat)
abbrev Jq:=(List.replicate (aaH p) (([]:List Int):(List Int)))
abbrev ZT:=((Jq p).length)
abbrev alV:List CV:=[.d nS,.own 66 true (ZT p)]
abbrev ama:Nat × Option Ob:=(67,some (.cells 161 (alV p)))
abbrev ai5:=((adA p):Int)
abbrev alA:=(CS wI (Jq p))
abbrev acA:Nat × Option Ob:=(66,some (.rows 40 1 (Jq p).length (alA p) none))
abbrev agQ:Nat × Option Ob:=(67,some (.cells 161 [.own 68 false (([]:List bU).length),.own 66 true (ZT p)]))
abbrev agc:Nat × Option Ob:=(68,some (bW 170 2 bU.cell ([]:List bU)))
abbrev ado:=(aS (aT .i64) (RU p))
abbrev aeu:=(aS aj.cell (V6 p))
abbrev ajS:List (Nat × Option Ob):=[CJ p,dL,acA p,agQ p,agc,aa9 p,Rp p,PW p,acI p,(73,some ac1),abg,Rt]
abbrev adV:Nat × TV:=(15,k54 p v0)
abbrev Uw:Nat × Option Ob:=(66,some (.rows 40 1 v4.2.from_.length (CS wI v4.2.from_) none))
abbrev UD:Ob:=(Zy 3 3 false false 1 1 (aT .i64) (aT .i64) (kP TU v0 v4.1 v8))
abbrev LB:Ob:=(bW 170 2 bU.cell v4.2.bP)
abbrev aix:List (Nat × Option Ob):=[CJ p,dL,Uw v4,(67,some (.cells 161 [.own 83 false v4.2.bP.length,.own 66 true v4.2.from_.length])),aa9 p,Rp p,PW p,acI p,(73,some (UD v0 v4 v8)),abg,Rt,(83,some (LB v4))]
abbrev UA:=(Ht (aT .i64) (kP TU v0 v4.1 v8))
abbrev U3:=(Hu (aT .i64) (kP TU v0 v4.1 v8))
abbrev afS:List (Nat × TV):=[(2,vP 63 0),k10 s_,(4,vP 65 0),qf p,(9,vP 67 0),(10,vP 72 0),vC,rY,qy,Ni p,M0 p,(68,k3 v0)]
abbrev akW:Nat × Option Ob:=(67,some (.cells 161 [.own 68 false v4.2.bP.length,.own 66 true v4.2.from_.length]))
abbrev adn:Nat × TV:=(17,ahU p u7)
abbrev anD:List (Nat × Option Ob):=[TR p p1,dL,Uw v5,(67,some (.cells 161 [.own 91 false v5.2.bP.length,.own 66 true v5.2.from_.length])),pU x0,Rp p,PW p,adT p x0,IL u4,(74,some (UD u7 v5 v9)),Rt,(91,some (LB v5))]
abbrev ahF:List (Nat × TV):=[(2,vP 63 0),k10 s_,(4,vP 65 0),qf p,(9,vP 67 0),(10,vP 72 0),vC,rY,qy,MZ p,MW p,(90,k3 u7)]
abbrev alb:List (Nat × TV):=[(2,vP 63 0),k10 s_,(4,vP 65 0),(8,vI v7),(9,vP 67 0),(10,vP 72 0),vC,rY,qy,(18,vI u0),Ki u2 u0,BS u2,(116,vI w0),(117,vI u0)]
abbrev adi:=(IntKind.wrap .i64 ((IntKind.wrap .i64 ((1:Int)+p.ax))+u0))
abbrev ajG:Nat × Option Ob:=(67,some (.cells 161 [.own 111 false x3.2.bP.length,.own 66 true x3.2.from_.length]))
abbrev al7:List (Nat × Option Ob):=[gm p p1 p2 p3,dL,Uw x3,ajG x3,pU x0,rH x1,uM x2,uW x2 x0 x1,IL u4,Iw u5,Ju x9,(111,some (LB x3))]
abbrev aaN:=(at' [(Bj u2 u0).e0,(Bj u2 u0).e1] v3.toNat)
abbrev aeD:Nat × TV:=(21,vI (aaN u0 u2 v3))
abbrev adw:List DV:=[.int .i64 (aaN u0 u2 v3)]
abbrev ajB:=(IntKind.wrap .i64 ((1:Int)+(aaN u0 u2 v3)))
abbrev amd:Nat × Option Ob:=(67,some (.cells 161 [.own 115 false v6.2.bP.length,.own 66 true v6.2.from_.length]))
abbrev adG:Nat × Option Ob:=(115,some (LB v6))
abbrev ahL:List (Nat × TV):=[(2,vP 63 0),k10 s_,(4,vP 65 0),(8,vI v7),(9,vP 67 0),(10,vP 72 0),vC,rY,qy,(18,vI u0),Ki u2 u0,BS u2,(116,vI w0),(117,vI u0),M6 u2 u0,(134,k3 v3)]
abbrev am1:List (Nat × TV):=[(2,vP 63 0),k10 s_,(4,vP 65 0),(8,vI v7),(9,vP 67 0),(10,vP 72 0),vC,rY,qy,BS u2,(116,vI w0),(117,k3 u0)]
abbrev aiL:Nat × Option Ob:=(67,some (.cells 161 [.own 68 false x5.length,.d (bJ (some true) 1 (Rf 1 (aT .i64)) x6)]))
abbrev alf:List (Nat × Option Ob):=[Bv u1,Co u1]
abbrev amq:=((at' u1.bP ((IntKind.wrap .i64 (((BitVec.ofInt (IntKind.bits .i64) (at' (u4.map Prod.snd) i) ^^^ BitVec.ofInt (IntKind.bits .i64) 1).toNat:Int))).toNat)).left)
abbrev agS:=(w5.set ((at' (u4.map Prod.fst) i).toNat) (amq u4 u1 i))
abbrev Zo:=(aS (aT .i64) (agS u4 u1 i w5))
abbrev ano:=(lZ (aS (aT .i64) w5) ((at' (u4.map Prod.fst) i).toNat) 0 [.int .i64 (amq u4 u1 i)])
abbrev akV:Ob:=(bW 3 1 (aT .i64) (agS u4 u1 i w5))
abbrev aj0:=((agS u4 u1 i w5).length)
abbrev akN:=(IntKind.wrap .i64 (((at' p2 ((at' (u5.map Prod.fst) i1).toNat)).most) - ((at' u1.bP ((at' (u5.map Prod.snd) i1).toNat)).left)))
abbrev aho:=(w6.set ((at' (u5.map Prod.fst) i1).toNat) (akN p2 u5 u1 i1))
abbrev Z4:=(aS (aT .i64) (aho p2 u5 u1 i1 w6))
abbrev aj1:=(lZ (aS (aT .i64) w6) ((at' (u5.map Prod.fst) i1).toNat) 0 [.int .i64 (akN p2 u5 u1 i1)])
abbrev ai8:Ob:=(bW 3 1 (aT .i64) (aho p2 u5 u1 i1 w6))
abbrev alI:=((aho p2 u5 u1 i1 w6).length)
abbrev ad4:List CV:=[cI ((at' (u3.map Prod.fst) i2).e0),cI ((at' (u3.map Prod.fst) i2).e1)]
abbrev ahq:List (Nat × TV):=[(2,vP 63 0),(4,vP 65 0),(9,vP 67 0),(10,vP 72 0),(26,vP 121 0),(27,vI (at' (u3.map Prod.snd) i2)),(208,vP 118 0)]
abbrev Zp:=(((at' (u3.map Prod.fst) i2).e0).toNat)
abbrev ag9:=(at' u1.bP ((IntKind.wrap .i64 (((BitVec.ofInt (IntKind.bits .i64) (at' (u3.map Prod.snd) i2) ^^^ BitVec.ofInt (IntKind.bits .i64) 1).toNat:Int))).toNat))
abbrev ahD:=(u9.set (Zp u3 i2) (⟨(ag9 u1 u3 i2).left,(at' u9 (Zp u3 i2)).e1⟩:aj))
abbrev ZV:=(aS aj.cell (ahD u1 u3 i2 u9))
abbrev amh:List DV:=[.int .i64 ((ag9 u1 u3 i2).left)]
abbrev aiR:=(lZ (aS aj.cell u9) (Zp u3 i2) 0 (amh u1 u3 i2))
abbrev akx:Ob:=(bW 164 2 aj.cell (ahD u1 u3 i2 u9))
abbrev anu:=((ahD u1 u3 i2 u9).length)
abbrev ahy:=(u9.set (Zp u3 i2) (⟨(at' u9 (Zp u3 i2)).e0,(ag9 u1 u3 i2).left⟩:aj))
abbrev YT:=(aS aj.cell (ahy u1 u3 i2 u9))
abbrev aj6:=(lZ (aS aj.cell u9) (Zp u3 i2) 1 (amh u1 u3 i2))
abbrev akj:Ob:=(bW 164 2 aj.cell (ahy u1 u3 i2 u9))
abbrev aku:=((ahy u1 u3 i2 u9).length)
abbrev K9:=(List.replicate p.ax.toNat (false:Bool))
abbrev aaO:Ob:=(bW 4 1 aF (K9 p))
abbrev aaF:Nat × Option Ob:=(122,some (aaO p))
abbrev acg:=((K9 p).length)
abbrev abh:Nat × Option Ob:=(123,some (.cells 27 [.own 122 true (acg p)]))
abbrev Tq:=(aS aF (K9 p))
abbrev anF:List (Nat × TV):=[(2,vP 63 0),(4,vP 65 0),(10,vP 72 0),(28,vP 123 0),(235,.v (.one (.fn 121 0 1 (EN [.ptr 124 0]))))]
abbrev ald:Ob:=(.cells 161 [.d (bJ none 2 bU.cell u1.bP),.d (O4 u1)])
abbrev ajL:Ob:=(.cells 157 [.d (ow [bJ none 2 bU.cell u1.bP,O4 u1] 0)])
abbrev aea:DV:=(ow [ow [bJ none 2 bU.cell u1.bP,O4 u1] 0] 0)
abbrev ahZ:TV:=(vD (.fn 121 1 (qC [aea u1])))
abbrev ajn:Nat × TV:=(235,ahZ u1)
abbrev ajg:List (Nat × TV):=[(2,vP 63 0),(4,vP 65 0),(10,vP 72 0),(28,vP 123 0),ajn u1]
abbrev amr:List CV:=[.d (aea u1)]
end
theorem DF (p:au) (s_:aA) {r:aD × (List Bool) × Int} (h:dW p s_=some r):Fn Try.prog 32 (Ms p s_) [] (.jl [.agg [.d (bJ none 1 (aT .i64) r.1.ah),.d (bJ none 1 (aT .i64) r.1.ai),.d (bJ none 2 aj.cell r.1.af)],sD (bJ none 1 aF r.2.1),sI r.2.2]) []:=by
 refine fN tT Try.func32 rfl rfl fun B=> ?_
 show bR _ _ _ _ _ _ (jI r) _
 unfold dW at h
 refine sz tT (akz p s_) {fr:=[(0,63),(1,64),(2,65)] } [64] ?_
 refine aQ (aQ (bE h fun r_ hr_ h=> ?_))
 have q0:=iD p s_ hr_
 refine rg tT (amM p s_ r_) [_] {an:=[(2,cA q0 [])] } [] ⟨q0,trivial⟩ ?_
 refine sz tT (aju p s_ r_) {} [] ?_
 refine bI h (fun hb9 h=> ?_) (fun hb9 h=> ?_)
 ·refine ct hb9 ?_
  refine sz tT ⟨[(4,vD (ow [nS,nS,nS] 0)),(5,vD nS),(6,vI r_)],[]⟩ {} [65] ?_
  refine aI (cO.le (st':=⟨[(4,vD (ow [aeC,aeC,bJ none 2 aj.cell ([]:List aj)] 0)),(5,vD (bJ none 1 aF ([]:List Bool))),(6,vI r_)],[]⟩) ⟨⟨⟨_,rfl,eB.v (fG.one (eZ.d (SI ⟨iM.nil',iM.nil',iM.nil',trivial⟩)))⟩,⟨_,rfl,eB.v (fG.one (eZ.d iM.nil'))⟩,tR,trivial⟩,trivial⟩) ?_
  refine aR ?_
  obtain rfl:=oi h
  exact rl [.agg [.d aeC,.d aeC,.d (bJ none 2 aj.cell ([]:List aj))],sD (bJ none 1 aF ([]:List Bool)),sI r_]
 ·refine cf hb9 ?_
  refine aP (sz tT (anI p s_) {} [] ?_)
  refine aQ (aO h fun⟨a1,a2,a3⟩ h=> ?_)
  refine ri tT ⟨adO p s_,[CJ p,dL,(66,some (.arr 40 1 (Jq p).length (fun _ j=>[nS].getD j .nilp))),ama p]⟩ [_,(ai5 p)=(adA p),_,_,(Jq p).length=(aaH p),aZ (aaH p) 1 (fun _ j=>[nS].getD j .nilp) (fun _ j=>[nS].getD j .nilp)] {an:=[(2, .arr (Jq p).length (fun _ j=>[nS].getD j .nilp))],fr:=[(2,66),(4,67)] } [] ⟨a1,rfl,a2,a3,List.length_replicate,fQ _ _ _,trivial⟩ (.trans (cO.acE (b:=66) (E:=40) (esz:=1) (len:=(Jq p).length) (el:=(fun _ j=>[nS].getD j .nilp)) (el':=CS wI (Jq p)) (by kernel_rfl) (fun i hi j hj=>match j,hj with|0,_=>Tj _ _ _ _ _ _ _ _)) (.trans (fz ⟨adO p s_,[CJ p,dL,acA p,ama p]⟩ []) (.trans (cO.Dl (E:=0) (esz:=0) (E0:=161) (cs:=(alV p)) (p:=67) (q:=0) (b:=68) (esz0:=0) (el0:=fun _ _=> .nilp) (ob:= .arr 170 2 0 (aS bU.cell ([]:List bU))) (fun _ _ _ _ h=> .inl ⟨h,rfl⟩) (by kernel_rfl) (by kernel_rfl) (by kernel_rfl)) (.trans (fz ⟨adO p s_,[CJ p,dL,acA p,(67,some (.cells 161 [.own 68 false 0,.own 66 true (ZT p)])),(68,some (.arr 170 2 0 (aS bU.cell ([]:List bU))))]⟩ []) (cO.le (st':=⟨adO p s_,[CJ p,dL,acA p,agQ p,agc]⟩) ⟨⟨tR,tR,tR,tR,tR,trivial⟩,hN 3 ⟨rfl,cu ⟨cW,eZ.refl _,trivial⟩,⟨rfl,oW,trivial⟩⟩⟩))))) ?_
  refine aQ (aO h fun⟨a1,a2,a3,a4,a5,a6,a7,a8,a9⟩ h=> ?_)
  refine dg tT mX ⟨[(2,vP 63 0),k10 s_,(4,vP 65 0),qf p,(9,vP 67 0),(10,vP 72 0)],[CJ p,dL,acA p,agQ p,agc,aa9 p,Rp p,PW p,acI p]⟩ [_,((p.ah.length:Int):Int)=(p.ah.length:Int),_,_,(RU p).length=(aaw p),aZ (aaw p) 1 (fun _ j=>[.int .i64 0].getD j .nilp) (ado p),_,((p.ai.length:Int):Int)=(p.ai.length:Int),_,_,(Sz p).length=(Ws p),aZ (Ws p) 1 (fun _ j=>[.int .i64 0].getD j .nilp) (YL p),_,((p.af.length:Int):Int)=(p.af.length:Int),_,_,(V6 p).length=(aav p),aZ (aav p) 2 (fun _ j=>[.int .i64 0,.int .i64 0].getD j .nilp) (aeu p)] {an:=[(3, .arr (RU p).length (ado p)),(7, .arr (Sz p).length (YL p)),(11, .arr (V6 p).length (aeu p))],fr:=[(3,69),(7,70),(11,71),(13,72)] } [] ⟨a1,rfl,a2,a3,List.length_replicate,fe _ _ _ _ _ (fun j hj=>(match j,hj with|0,_=>rfl)),a4,rfl,a5,a6,List.length_replicate,fe _ _ _ _ _ (fun j hj=>(match j,hj with|0,_=>rfl)),a7,rfl,a8,a9,List.length_replicate,fe _ _ _ _ _ (fun j hj=>(match j,hj with|0,_=>rfl|1,_=>rfl)),trivial⟩ ?_
  refine sz tT ⟨aa7 s_ p,ajS p⟩ {an:=[(0, .map 0 (Ht (aT .i64) ([]:(List (Int × Int)))) (Hu (aT .i64) ([]:(List (Int × Int)))) []),(1, .map 0 (Ht (aT .i64) ([]:(List (Int × Int)))) (Hu (aT .i64) ([]:(List (Int × Int)))) []),(2, .map 0 (Ht aj.cell ([]:(List (aj × Int)))) (Hu (aT .i64) ([]:(List (aj × Int)))) [])],fr:=[(0,73),(1,74),(2,75)] } [] ?_
  refine aQ (sz tT ⟨[(2,vP 63 0),k10 s_,(4,vP 65 0),qf p,(9,vP 67 0),(10,vP 72 0),vC,rY,qy,Ni p,M0 p,(68,vI 0)],ajS p⟩ {} [] ?_)
  refine bE h fun y hy h=> ?_
  refine aL [] (D8 p s_) (Dx p s_) jI hy (fun s f h=> ?_) ?_
  ·clear hy
   show bR _ _ _ _ _ _ ((M7 p s_) f) _
   unfold kD at h
   obtain⟨n0,n1,v8,v0⟩:=s
   refine sz tT ⟨[(2,vP 63 0),k10 s_,(4,vP 65 0),qf p,(9,vP 67 0),(10,vP 72 0),vC,rY,qy,Ni p,M0 p,(68,vI v0),(69,k53 p v0)],YV p n1 n0 v8⟩ {} [] ?_
   refine aQ ?_
   refine bI h (fun hb1 h=> ?_) (fun hb1 h=> ?_)
   ·refine ct hb1 ?_
    refine aP (aQ (aB (aQ (aO h fun a1 h=> ?_))))
    refine rg tT ⟨[(2,vP 63 0),k10 s_,(4,vP 65 0),qf p,(9,vP 67 0),(10,vP 72 0),vC,rY,qy,(14,vI v0),adV p v0,Ni p,M0 p,(68,vI v0)],YV p n1 n0 v8⟩ [_] {fr:=[(3,82)] } [82] ⟨a1,trivial⟩ ?_
    refine aQ (bE h fun ui hr_1 h=> ?_)
    have q0:=iB p s_ v0 hr_1
    refine rg tT ⟨[(2,vP 63 0),k10 s_,(4,vP 65 0),qf p,(9,vP 67 0),(10,vP 72 0),vC,rY,qy,(14,vI v0),adV p v0,Ni p,M0 p,(68,vI v0),(76,vB ui)],YV p n1 n0 v8⟩ [_] {an:=[(3,cA q0 [])] } [] ⟨q0,trivial⟩ ?_
    refine bI h (fun hb h=> ?_) (fun hb h=> ?_)
    ·refine ct hb ?_
     refine bE h fun v4 hr_2 h=> ?_
     have q0:=rk [(0,67),(1,68),(2,66),(3,83)] (dU 0 (IntKind.wrap .i64 ((1:Int)+(k55 p v0))) (k56 p v0) 0 (⟨n0,n1⟩:aN) hr_2)
     refine rg tT ⟨amZ p s_ v0,aix p v0 v4 v8⟩ [_,LU [some .i64] 1 1 v8.length (Ht (aT .i64) v8) (Hu (aT .i64) v8) [.int .i64 v0] [cI v4.1] [] (kP TU v0 v4.1 v8).length (UA v0 v4 v8) (U3 v0 v4 v8)] {an:=[(8,cA q0 [67,68,66]),(9, .map (kP TU v0 v4.1 v8).length (UA v0 v4 v8) (U3 v0 v4 v8) [])] } [] ⟨q0,Cr (fun _=>rfl) (fun _ _=>rfl) v8 v0 v4.1 rfl rfl,trivial⟩ ?_
     refine ri tT ⟨afS p s_ v0,aix p v0 v4 v8⟩ [] {} [] trivial (cO.fin (st':=⟨afS p s_ v0,[CJ p,dL,Uw v4,akW v4,(68,some (LB v4)),aa9 p,Rp p,PW p,acI p,(73,some (UD v0 v4 v8)),abg,Rt]⟩) (cs:=[]) ⟨[],[(63,63),(65,65),(66,66),(67,67),(83,68),(69,69),(70,70),(71,71),(72,72),(73,73),(74,74),(75,75)]⟩ [2,3,4,8,9,10,11,12,13,66,67,68] (by kernel_rfl) trivial) ?_
     obtain rfl:=oi h
     exact lN
    ·refine cf hb ?_
     refine aP (rz tT ⟨afS p s_ v0,YV p n1 n0 v8⟩ {} [] ?_)
     obtain rfl:=oi h
     exact lN
   ·refine cf hb1 ?_
    refine aI (fz ⟨aa7 s_ p,YV p n1 n0 v8⟩ []) ?_
    refine aX ?_
    obtain rfl:=oi h
    exact lB
  ·clear hy
   cases y with
   |brk z=>
    obtain⟨p1,ue,uc,x0,u4⟩:=z
    unfold dZ
    refine⟨_, .refl, ?_⟩
    refine aQ (sz tT ⟨[(2,vP 63 0),k10 s_,(4,vP 65 0),qf p,(9,vP 67 0),(10,vP 72 0),vC,rY,qy,MZ p,MW p,(90,vI 0)],anb p p1 x0 uc ue u4⟩ {} [] ?_)
    refine bE h fun y1 hy h=> ?_
    refine aL [] (D7 p s_ p1 x0 u4) (Du p s_ p1 x0 u4) jI hy (fun s f h=> ?_) ?_
    ·clear hy
     show bR _ _ _ _ _ _ ((Nc p s_ p1 x0 u4) f) _
     unfold ku at h
     obtain⟨w7,w3,v9,u7⟩:=s
     refine sz tT ⟨[(2,vP 63 0),k10 s_,(4,vP 65 0),qf p,(9,vP 67 0),(10,vP 72 0),vC,rY,qy,MZ p,MW p,(90,vI u7),(91,k65 p u7)],ZK p v9 p1 w3 w7 x0 u4⟩ {} [] ?_
     refine aQ ?_
     refine bI h (fun hb3 h=> ?_) (fun hb3 h=> ?_)
     ·refine ct hb3 ?_
      refine aP (aQ (aB (aQ (aO h fun a1 h=> ?_))))
      refine rg tT ⟨[(2,vP 63 0),k10 s_,(4,vP 65 0),qf p,(9,vP 67 0),(10,vP 72 0),vC,rY,qy,(16,vI u7),adn p u7,MZ p,MW p,(90,vI u7)],ZK p v9 p1 w3 w7 x0 u4⟩ [_] {fr:=[(3,90)] } [90] ⟨a1,trivial⟩ ?_
      refine aQ (bE h fun uj hr_3 h=> ?_)
      have q0:=fA (⟨p.ax,p1,p.ai,p.af⟩:au) s_ u7 hr_3
      refine rg tT ⟨[(2,vP 63 0),k10 s_,(4,vP 65 0),qf p,(9,vP 67 0),(10,vP 72 0),vC,rY,qy,(16,vI u7),adn p u7,MZ p,MW p,(90,vI u7),(98,vB uj)],ZK p v9 p1 w3 w7 x0 u4⟩ [_] {an:=[(3,cA q0 [])] } [] ⟨q0,trivial⟩ ?_
      refine bI h (fun hb2 h=> ?_) (fun hb2 h=> ?_)
      ·refine ct hb2 ?_
       refine bE h fun v5 hr_4 h=> ?_
       have q0:=rk [(0,67),(1,68),(2,66),(3,91)] (dU (IntKind.wrap .i64 ((1:Int)+((at' p.ai u7.toNat).a))) (IntKind.wrap .i64 ((1:Int)+((at' p.ai u7.toNat).b))) (Qi p u7) (Qi p u7) (⟨w7,w3⟩:aN) hr_4)
       refine rg tT ⟨akJ p s_ u7,anD p u7 p1 v5 x0 u4 v9⟩ [_,LU [some .i64] 1 1 v9.length (Ht (aT .i64) v9) (Hu (aT .i64) v9) [.int .i64 u7] [cI v5.1] [] (kP TU u7 v5.1 v9).length (UA u7 v5 v9) (U3 u7 v5 v9)] {an:=[(13,cA q0 [67,68,66]),(14, .map (kP TU u7 v5.1 v9).length (UA u7 v5 v9) (U3 u7 v5 v9) [])] } [] ⟨q0,Cr (fun _=>rfl) (fun _ _=>rfl) v9 u7 v5.1 rfl rfl,trivial⟩ ?_
       refine ri tT ⟨ahF p s_ u7,anD p u7 p1 v5 x0 u4 v9⟩ [] {} [] trivial (cO.fin (st':=⟨ahF p s_ u7,[TR p p1,dL,Uw v5,akW v5,(68,some (LB v5)),pU x0,Rp p,PW p,adT p x0,IL u4,(74,some (UD u7 v5 v9)),Rt]⟩) (cs:=[]) ⟨[],[(63,63),(65,65),(66,66),(67,67),(91,68),(69,69),(70,70),(71,71),(72,72),(73,73),(74,74),(75,75)]⟩ [2,3,4,8,9,10,11,12,13,88,89,90] (by kernel_rfl) trivial) ?_
       obtain rfl:=oi h
       exact lN
      ·refine cf hb2 ?_
       refine aP (rz tT ⟨ahF p s_ u7,ZK p v9 p1 w3 w7 x0 u4⟩ {} [] ?_)
       obtain rfl:=oi h
       exact lN
     ·refine cf hb3 ?_
      refine aI (fz ⟨aa7 s_ p,ZK p v9 p1 w3 w7 x0 u4⟩ []) ?_
      refine aX ?_
      obtain rfl:=oi h
      exact lB
    ·clear hy
     cases y1 with
     |brk z=>
      obtain⟨p2,uf,ud,x1,u5⟩:=z
      unfold dZ
      refine⟨_, .refl, ?_⟩
      refine aQ (sz tT ⟨[(2,vP 63 0),k10 s_,(4,vP 65 0),qf p,(9,vP 67 0),(10,vP 72 0),vC,rY,qy,(115,vD (k25 p)),(116,vI (p.af.length:Int)),(117,vI 0)],amm p p1 p2 x1 ud uf x0 u4 u5⟩ {} [] ?_)
      refine bE h fun y3 hy h=> ?_
      refine aL [] (DR p s_ p1 x0 u4 p2 x1 u5) (DT p p1 x0 u4 p2 x1 u5) jI hy (fun s f h=> ?_) ?_
      ·clear hy
       show bR _ _ _ _ _ _ ((wh p s_ p1 x0 u4 p2 x1 u5) f) _
       unfold kC at h
       obtain⟨p3,v7,x7,w9,x2,x9,u2,w0,u0⟩:=s
       refine sz tT ⟨[(2,vP 63 0),k10 s_,(4,vP 65 0),(8,vI v7),(9,vP 67 0),(10,vP 72 0),vC,rY,qy,BS u2,(116,vI w0),(117,vI u0),(118,vB (decide (u0<w0)))],aai p p1 p2 p3 x2 x0 x1 x9 w9 x7 u4 u5⟩ {} [] ?_
       refine aQ ?_
       refine bI h (fun hb6 h=> ?_) (fun hb6 h=> ?_)
       ·refine ct hb6 ?_
        refine aP (aQ (aB (aQ (aO h fun a1 h=> ?_))))
        refine rg tT ⟨alb s_ v7 u0 u2 w0,aai p p1 p2 p3 x2 x0 x1 x9 w9 x7 u4 u5⟩ [_] {fr:=[(3,110)] } [110] ⟨a1,trivial⟩ ?_
        refine aQ (bE h fun x3 hr_5 h=> ?_)
        have q0:=rk [(0,67),(1,68),(2,66),(3,111)] (dU (adi p u0) v7 ((at' u2 u0.toNat).aV) 0 (⟨x7,w9⟩:aN) hr_5)
        refine rg tT ⟨alb s_ v7 u0 u2 w0,al7 p p1 x0 u4 x3 p2 p3 x1 x2 u5 x9⟩ [_] {an:=[(9,cA q0 [67,68,66])] } [] ⟨q0,trivial⟩ ?_
        refine sz tT ⟨[(2,vP 63 0),k10 s_,(4,vP 65 0),(8,vI v7),(9,vP 67 0),(10,vP 72 0),vC,rY,qy,(18,vI u0),Ki u2 u0,BS u2,(116,vI w0),(117,vI u0),M6 u2 u0,(134,vI 0)],al7 p p1 x0 u4 x3 p2 p3 x1 x2 u5 x9⟩ {} [] ?_
        refine bE h fun y2 hy h=> ?_
        refine aL [5] (DU p s_ p1 x0 u4 p2 x1 u5 p3 v7 x2 u2 w0 u0) (DW p s_ p1 x0 u4 p2 x1 u5 p3 v7 x2 u2 w0 u0) (wh p s_ p1 x0 u4 p2 x1 u5) hy (fun s f h=> ?_) ?_
        ·clear hy
         show bR _ _ _ _ _ _ ((Mw p s_ p1 x0 u4 p2 x1 u5 p3 v7 x2 u2 w0 u0) f) _
         unfold iC at h
         obtain⟨w8,w4,w1,v3⟩:=s
         refine sz tT ⟨[(2,vP 63 0),k10 s_,(4,vP 65 0),(8,vI v7),(9,vP 67 0),(10,vP 72 0),vC,rY,qy,(18,vI u0),Ki u2 u0,BS u2,(116,vI w0),(117,vI u0),M6 u2 u0,(134,vI v3),(135,vB (decide (v3<2)))],VK p p1 p2 p3 w4 w8 x0 x1 x2 u4 u5 w1⟩ {} [] ?_
         refine aQ ?_
         refine bI h (fun hb5 h=> ?_) (fun hb5 h=> ?_)
         ·refine ct hb5 ?_
          refine aP (aQ (aB (aQ (aO h fun a1 h=> ?_))))
          refine rg tT ⟨[(2,vP 63 0),k10 s_,(4,vP 65 0),(8,vI v7),(9,vP 67 0),(10,vP 72 0),vC,rY,qy,(18,vI u0),Ki u2 u0,(20,vI v3),aeD u0 u2 v3,BS u2,(116,vI w0),(117,vI u0),M6 u2 u0,(134,vI v3)],VK p p1 p2 p3 w4 w8 x0 x1 x2 u4 u5 w1⟩ [_,v3.toNat*1+1≤(acJ u2 u0).length,((acJ u2 u0).drop (v3.toNat*1)).take 1=(adw u0 u2 v3).map .d] {an:=[(1, .vals (adw u0 u2 v3))] } [] ⟨a1,abz (n:=2) (sz:=1) (Nat.le_refl _) a1,aan (n:=2) (sz:=1) (g:=fun q=>[cI (at' [(Bj u2 u0).e0,(Bj u2 u0).e1] q)]) (by intro q hq;match q,hq with|0,_=>rfl|1,_=>rfl) a1,trivial⟩ ?_
          refine aQ (bE h fun ul hr_6 h=> ?_)
          have q0:=nW s_ (aaN u0 u2 v3) hr_6
          refine rg tT ⟨[(2,vP 63 0),k10 s_,(4,vP 65 0),(8,vI v7),(9,vP 67 0),(10,vP 72 0),vC,rY,qy,(18,vI u0),Ki u2 u0,(20,vI v3),aeD u0 u2 v3,BS u2,(116,vI w0),(117,vI u0),M6 u2 u0,(134,vI v3),(140,vB ul)],VK p p1 p2 p3 w4 w8 x0 x1 x2 u4 u5 w1⟩ [_] {an:=[(2,cA q0 [])] } [] ⟨q0,trivial⟩ ?_
          refine bI h (fun hb4 h=> ?_) (fun hb4 h=> ?_)
          ·refine ct hb4 ?_
           refine bE h fun v6 hr_7 h=> ?_
           have q0:=rk [(0,67),(1,111),(2,66),(3,115)] (dU (ajB u0 u2 v3) (adi p u0) ((at' u2 u0.toNat).aV) 0 (⟨w8,w4⟩:aN) hr_7)
           refine rg tT ⟨akg u2 u0 s_ v7 w0 v3,[gm p p1 p2 p3,dL,Uw v6,amd v6,pU x0,rH x1,uM x2,uW x2 x0 x1,IL u4,Iw u5,(75,some (Zy 164 3 true false 2 1 aj.cell (aT .i64) (kP (fun a b=>(decide (a.e0=b.e0) && (decide (a.e1=b.e1) && true))) (⟨u0,v3⟩:aj) v6.1 w1))),adG v6]⟩ [_,LU [some .i64,some .i64] 2 1 w1.length (Ht aj.cell w1) (Hu (aT .i64) w1) [.int .i64 u0,.int .i64 v3] [cI v6.1] [] (kP (fun a b=>(decide (a.e0=b.e0) && (decide (a.e1=b.e1) && true))) (⟨u0,v3⟩:aj) v6.1 w1).length (Ht aj.cell (kP (fun a b=>(decide (a.e0=b.e0) && (decide (a.e1=b.e1) && true))) (⟨u0,v3⟩:aj) v6.1 w1)) (Hu (aT .i64) (kP (fun a b=>(decide (a.e0=b.e0) && (decide (a.e1=b.e1) && true))) (⟨u0,v3⟩:aj) v6.1 w1))] {an:=[(14,cA q0 [67,111,66]),(15, .map (kP (fun a b=>(decide (a.e0=b.e0) && (decide (a.e1=b.e1) && true))) (⟨u0,v3⟩:aj) v6.1 w1).length (Ht aj.cell (kP (fun a b=>(decide (a.e0=b.e0) && (decide (a.e1=b.e1) && true))) (⟨u0,v3⟩:aj) v6.1 w1)) (Hu (aT .i64) (kP (fun a b=>(decide (a.e0=b.e0) && (decide (a.e1=b.e1) && true))) (⟨u0,v3⟩:aj) v6.1 w1)) [])] } [] ⟨q0,Cr (fun _=>rfl) (fun _ _=>rfl) w1 (⟨u0,v3⟩:aj) v6.1 rfl rfl,trivial⟩ ?_
           refine ri tT ⟨ahL s_ v7 u0 u2 w0 v3,[gm p p1 p2 p3,dL,Uw v6,amd v6,pU x0,rH x1,uM x2,uW x2 x0 x1,IL u4,Iw u5,(75,some (Zy 164 3 true false 2 1 aj.cell (aT .i64) (kP (fun a b=>(decide (a.e0=b.e0) && (decide (a.e1=b.e1) && true))) (⟨u0,v3⟩:aj) v6.1 w1))),adG v6]⟩ [] {} [] trivial (cO.fin (st':=⟨ahL s_ v7 u0 u2 w0 v3,[gm p p1 p2 p3,dL,Uw v6,ajG v6,pU x0,rH x1,uM x2,uW x2 x0 x1,IL u4,Iw u5,(75,some (Zy 164 3 true false 2 1 aj.cell (aT .i64) (kP (fun a b=>(decide (a.e0=b.e0) && (decide (a.e1=b.e1) && true))) (⟨u0,v3⟩:aj) v6.1 w1))),(111,some (LB v6))]⟩) (cs:=[]) ⟨[],[(63,63),(65,65),(66,66),(67,67),(69,69),(70,70),(71,71),(72,72),(73,73),(74,74),(75,75),(115,111)]⟩ [2,3,4,8,9,10,11,12,13,18,19,115,116,117,133,134] (by kernel_rfl) trivial) ?_
           obtain rfl:=oi h
           exact lN
          ·refine cf hb4 ?_
           refine aP (rz tT ⟨ahL s_ v7 u0 u2 w0 v3,VK p p1 p2 p3 w4 w8 x0 x1 x2 u4 u5 w1⟩ {} [] ?_)
           obtain rfl:=oi h
           exact lN
         ·refine cf hb5 ?_
          refine aI (fz (amE s_ v7 u2 w0 u0 p p1 p2 p3 w4 w8 x0 x1 x2 u4 u5 w1) []) ?_
          refine aX ?_
          obtain rfl:=oi h
          exact lB
        ·clear hy
         cases y2 with
         |brk z=>
          obtain⟨ub,x8,ug⟩:=z
          unfold dZ
          refine⟨_, .refl, ?_⟩
          refine ri tT ⟨am1 s_ v7 u0 u2 w0,VK p p1 p2 p3 x8 ub x0 x1 x2 u4 u5 ug⟩ [] {} [] trivial (cO.fin (st':=⟨am1 s_ v7 u0 u2 w0,aai p p1 p2 p3 x2 x0 x1 ug x8 ub u4 u5⟩) (cs:=[]) ⟨[],[(63,63),(65,65),(66,66),(67,67),(111,68),(69,69),(70,70),(71,71),(72,72),(73,73),(74,74),(75,75)]⟩ [2,3,4,8,9,10,11,12,13,115,116,117] (by kernel_rfl) trivial) ?_
          obtain rfl:=oi h
          exact lN
         |ret v=>
          obtain rfl:=oi h
          unfold dZ
          intro e st hn ha hR
          cases e with
          |normal=>exact absurd rfl hn
          |exit id=>simp only [qW (b:=5) ha rfl,cond_false];exact hR
          |goto l=>exact hR
          |ret=>exact hR
          |panic c=>exact hR
          |outgrown=>exact hR
       ·refine cf hb6 ?_
        refine aI (fz (amH v7 p p1 p2 p3 w9 x7 x0 x1 x2 u4 u5 x9) []) ?_
        refine aX ?_
        obtain rfl:=oi h
        exact lB
      ·clear hy
       cases y3 with
       |brk z=>
        obtain⟨v1,ua,x5,x6,v2,u3⟩:=z
        unfold dZ
        refine⟨_, .refl, ?_⟩
        refine aQ (aI (.trans (fi ⟨ahe ua,[gm p p1 p2 v1,dL,(67,some (.cells 161 [.own 68 false x5.length,.d (.sl (some true) 1 x6.length (fun i j=>evD (CS wI x6 i j)))])),Sc x5,pU x0,rH x1,uM v2,uW v2 x0 x1,IL u4,Iw u5,Ju u3]⟩ [x6.length=x6.length] [66] ⟨rfl,trivial⟩) (cO.le (st':=⟨ahe ua,[gm p p1 p2 v1,dL,aiL x5 x6,Sc x5,pU x0,rH x1,uM v2,uW v2 x0 x1,IL u4,Iw u5,Ju u3]⟩) ⟨⟨tR,tR,tR,tR,tR,tR,tR,tR,trivial⟩,hN 2 ⟨rfl,cu ⟨eZ.refl _,eZ.d (iM.sl (.inr rfl) (fun i _ j hj=>match j,hj with|0,_=> .refl _)),trivial⟩,.refl _⟩⟩)) ?_)
        refine bE h fun u1 hr_8 h=> ?_
        refine rg tT ⟨[(2,vP 63 0),(4,vP 65 0),(9,vP 67 0),(10,vP 72 0),vC,rY,qy],[gm p p1 p2 v1,dL,Bv u1,Co u1,pU x0,rH x1,uM v2,uW v2 x0 x1,IL u4,Iw u5,Ju u3]⟩ [Fn Try.prog 80 [.one (.ptr 67 0),sI ua] [aiL x5 x6,Sc x5] (.jl []) (alf u1)] {an:=[(2, .call [67,68] (.jl []) (alf u1))] } [] ⟨Fn.leH (args:=[.one (.ptr 67 0),sI ua]) (hin:=[(67,some (.cells 161 [.own 68 false x5.length,.d (VY x6)])),Sc x5]) (rK [(0,67),(1,68)] (rQ ua (⟨x5,x6⟩:aN) hr_8)) ⟨fG.refl _,fG.refl _,trivial⟩ ⟨rfl,cu ⟨eZ.refl _,eZ.d iM.qB,trivial⟩,.refl _⟩,trivial⟩ ?_
        refine aQ (bE h fun y4 hy h=> ?_)
        refine pV (M9 p p1 p2 x1 u5 v1 v2 u3 u1) (K:=3) (V:=3) (s0:=(x0)) ⟨3,3,false,false,1,1,u4.length,Ht (aT .i64) u4,Hu (aT .i64) u4,[]⟩ 73 116 (fun i=>(sI (at' (u4.map Prod.fst) i))) (fun i=>(sI (at' (u4.map Prod.snd) i))) hy [3,4] (by kernel_rfl) (by kernel_rfl) (by kernel_rfl) (fun _ _=> ⟨rfl,rfl⟩) (fun _ _=> ⟨vw _ _,vw _ _⟩) (fun _=>(cO.fin (st':=(alE u1 p p1 p2 v1 x0 x1 v2 u5 u3)) (cs:=[]) ⟨[],[(63,63),(65,65),(67,67),(68,68),(69,69),(70,70),(71,71),(72,72),(74,74),(75,75),(116,116)]⟩ [2,4,9,10,12,13,162] (by kernel_rfl) trivial)) (fun s=>by obtain⟨w5,rfl⟩: ∃q,q=s:=⟨_,rfl⟩;kernel_rfl) (fun B s i s' hi h=> ?_) ?_
        ·clear hy
         unfold ny at h
         obtain⟨w5,rfl⟩: ∃q,q=s:=⟨_,rfl⟩
         refine rwp tT (⟨[(2,vP 63 0),(4,vP 65 0),(9,vP 67 0),(10,vP 72 0),rY,qy,(22,vI (at' (u4.map Prod.fst) i)),(23,vI (at' (u4.map Prod.snd) i)),(162,vP 116 0)],ai3 u1 p p1 p2 v1 w5 x1 v2 u5 u3⟩) {fin:=⟨[],[(63,63),(65,65),(67,67),(68,68),(69,69),(70,70),(71,71),(72,72),(74,74),(75,75),(116,116)]⟩,ts:=[2,4,9,10,12,13,22,23,162] } (cs:=[]) (by kernel_rfl) trivial .refl ?_
         refine aO h fun⟨a1,a2⟩ h=> ?_
         refine di tT mX ⟨afK,[gm p p1 p2 v1,dL,Bv u1,Co u1,(69,some (.arr 3 1 w5.length (Zo u4 u1 i w5))),rH x1,uM v2,uW v2 w5 x1,Iw u5,Ju u3,(116,none)]⟩ [_,_,_,_,aZ w5.length 1 (ano u4 u1 i w5) (Zo u4 u1 i w5)] {an:=[(13, .arr 0 (Zo u4 u1 i w5))] } [] ⟨a1,tL a1,a2,tL a2,dA _ _ _ _ _ _ _ _ rfl (fun j hj=>(match j,hj with|0,_=>rfl)),trivial⟩ (cO.le (st':=⟨afK,[gm p p1 p2 v1,dL,Bv u1,Co u1,(69,some (akV u4 u1 i w5)),rH x1,uM v2,(72,some (.cells 77 [.own 69 true (aj0 u4 u1 i w5),.own 70 true x1.length,.own 71 true v2.length])),Iw u5,Ju u3,(116,none)]⟩) ⟨⟨tR,tR,tR,tR,tR,tR,tR,trivial⟩,hN 4 ⟨rfl,oW,hN 2 ⟨rfl,cu ⟨cW,eZ.refl _,eZ.refl _,trivial⟩,.refl _⟩⟩⟩) ?_
         obtain rfl:=oi h
         exact⟨.inl rfl,by kernel_rfl⟩
        ·clear hy
         obtain⟨u6,rfl⟩: ∃q,q=y4:=⟨_,rfl⟩
         refine aI (fz ⟨[(2,vP 63 0),(4,vP 65 0),(9,vP 67 0),(10,vP 72 0),rY,qy],[gm p p1 p2 v1,dL,Bv u1,Co u1,pU u6,rH x1,uM v2,uW v2 u6 x1,Iw u5,Ju u3]⟩ []) ?_
         refine aQ (bE h fun y5 hy h=> ?_)
         refine pV (MB p p1 p2 v1 v2 u3 u1 u6) (K:=3) (V:=3) (s0:=(x1)) ⟨3,3,false,false,1,1,u5.length,Ht (aT .i64) u5,Hu (aT .i64) u5,[]⟩ 74 117 (fun i1=>(sI (at' (u5.map Prod.fst) i1))) (fun i1=>(sI (at' (u5.map Prod.snd) i1))) hy [3,4] (by kernel_rfl) (by kernel_rfl) (by kernel_rfl) (fun _ _=> ⟨rfl,rfl⟩) (fun _ _=> ⟨vw _ _,vw _ _⟩) (fun _=>(cO.fin (st':=(anm p p1 p2 v1 u1 u6 x1 v2 u3)) (cs:=[]) ⟨[],[(63,63),(65,65),(67,67),(68,68),(69,69),(70,70),(71,71),(72,72),(75,75),(117,117)]⟩ [2,4,9,10,13,182] (by kernel_rfl) trivial)) (fun s=>by obtain⟨w6,rfl⟩: ∃q,q=s:=⟨_,rfl⟩;kernel_rfl) (fun B s i1 s' hi h=> ?_) ?_
         ·clear hy
          unfold nD at h
          obtain⟨w6,rfl⟩: ∃q,q=s:=⟨_,rfl⟩
          refine rwp tT (⟨[(2,vP 63 0),(4,vP 65 0),(9,vP 67 0),(10,vP 72 0),qy,(24,vI (at' (u5.map Prod.fst) i1)),(25,vI (at' (u5.map Prod.snd) i1)),(182,vP 117 0)],alO p p1 p2 v1 u1 u6 w6 v2 u3⟩) {fin:=⟨[],[(63,63),(65,65),(67,67),(68,68),(69,69),(70,70),(71,71),(72,72),(75,75),(117,117)]⟩,ts:=[2,4,9,10,13,24,25,182] } (cs:=[]) (by kernel_rfl) trivial .refl ?_
          refine aO h fun⟨a1,a2,a3⟩ h=> ?_
          refine di tT mX ⟨aim,[gm p p1 p2 v1,dL,Bv u1,Co u1,pU u6,(70,some (.arr 3 1 w6.length (Z4 p2 u5 u1 i1 w6))),uM v2,uW v2 u6 w6,Ju u3,(117,none)]⟩ [_,_,_,_,_,aZ w6.length 1 (aj1 p2 u5 u1 i1 w6) (Z4 p2 u5 u1 i1 w6)] {an:=[(19, .arr 0 (Z4 p2 u5 u1 i1 w6))] } [] ⟨a1,a2,tL a2,a3,tL a3,dA _ _ _ _ _ _ _ _ rfl (fun j hj=>(match j,hj with|0,_=>rfl)),trivial⟩ (cO.le (st':=⟨aim,[gm p p1 p2 v1,dL,Bv u1,Co u1,pU u6,(70,some (ai8 p2 u5 u1 i1 w6)),uM v2,(72,some (.cells 77 [.own 69 true u6.length,.own 70 true (alI p2 u5 u1 i1 w6),.own 71 true v2.length])),Ju u3,(117,none)]⟩) ⟨⟨tR,tR,tR,tR,tR,tR,trivial⟩,hN 5 ⟨rfl,oW,⟨rfl, .refl _,⟨rfl,cu ⟨eZ.refl _,cW,eZ.refl _,trivial⟩,⟨rfl, .refl _,⟨rfl, .refl _,trivial⟩⟩⟩⟩⟩⟩) ?_
          obtain rfl:=oi h
          exact⟨.inl rfl,by kernel_rfl⟩
         ·clear hy
          obtain⟨u8,rfl⟩: ∃q,q=y5:=⟨_,rfl⟩
          refine aI (fz ⟨[(2,vP 63 0),(4,vP 65 0),(9,vP 67 0),(10,vP 72 0),qy],[gm p p1 p2 v1,dL,Bv u1,Co u1,pU u6,rH u8,uM v2,uW v2 u6 u8,Ju u3]⟩ []) ?_
          refine aQ (bE h fun y6 hy h=> ?_)
          refine pV (ME p p1 p2 v1 u1 u6 u8) (K:=164) (V:=3) (s0:=(v2)) ⟨164,3,true,false,2,1,u3.length,Ht aj.cell u3,Hu (aT .i64) u3,[]⟩ 75 118 (fun i2=>(.agg (ad4 u3 i2))) (fun i2=>(sI (at' (u3.map Prod.snd) i2))) hy [3,4,5] (by kernel_rfl) (by kernel_rfl) (by kernel_rfl) (fun _ _=> ⟨rfl,rfl⟩) (fun _ _=> ⟨XE rfl,vw _ _⟩) (fun _=>(cO.fin (st':=(alW p p1 p2 v1 u1 u6 u8 v2)) (cs:=[]) ⟨[],[(63,63),(65,65),(67,67),(68,68),(69,69),(70,70),(71,71),(72,72),(118,118)]⟩ [2,4,9,10,208] (by kernel_rfl) trivial)) (fun s=>by obtain⟨u9,rfl⟩: ∃q,q=s:=⟨_,rfl⟩;kernel_rfl) (fun B s i2 s' hi h=> ?_) ?_
          ·clear hy
           unfold nA at h
           obtain⟨u9,rfl⟩: ∃q,q=s:=⟨_,rfl⟩
           refine rwp tT (⟨ahq u3 i2,[gm p p1 p2 v1,dL,Bv u1,Co u1,pU u6,rH u8,uM u9,uW u9 u6 u8,(118,none),(121,some (.cells 164 (ad4 u3 i2)))]⟩) {fr:=frf [(3,121)],fin:=⟨[],[(63,63),(65,65),(67,67),(68,68),(69,69),(70,70),(71,71),(72,72),(118,118),(121,121)]⟩,ts:=[2,4,9,10,26,27,208] } (cs:=[]) (by kernel_rfl) trivial .refl ?_
           refine bI h (fun hb7 h=> ?_) (fun _ h=> ?_)
           ·skip
            refine aI (cO.le (st':=⟨ahq u3 i2,[gm p p1 p2 v1,dL,Bv u1,Co u1,pU u6,rH u8,uM u9,uW u9 u6 u8,(118,none),(121,some (.cells 164 [cI ((at' (u3.map Prod.fst) i2).e0),cI 0]))]⟩) ⟨⟨tR,tR,tR,tR,tR,tR,tR,trivial⟩,hN 9 ⟨rfl,cu ⟨eZ.refl _,eZ.of (congrArg (fun n=>CV.d (.int .i64 n)) (of_decide_eq_true hb7)),trivial⟩,trivial⟩⟩) ?_
            refine aO h fun⟨a1,a2⟩ h=> ?_
            refine di tT mX ⟨acr,[gm p p1 p2 v1,dL,Bv u1,Co u1,pU u6,rH u8,(71,some (.arr 164 2 u9.length (ZV u1 u3 i2 u9))),uW u9 u6 u8,(118,none)]⟩ [(0:Int)≤0∧(0:Int)<(2:Nat),(0:Int)≤1∧(1:Int)<(2:Nat),_,_,_,(0:Int)≤0∧(0:Int)<(2:Nat),_,aZ u9.length 2 (aiR u1 u3 i2 u9) (ZV u1 u3 i2 u9)] {an:=[(17, .arr 0 (ZV u1 u3 i2 u9))] } [] ⟨(by decide),(by decide),a1,tL a1,a2,(by decide),tL a2,dA _ _ _ _ _ _ _ _ rfl (fun j hj=>(match j,hj with|0,_=>rfl|1,_=>rfl)),trivial⟩ (cO.le (st':=⟨acr,[gm p p1 p2 v1,dL,Bv u1,Co u1,pU u6,rH u8,(71,some (akx u1 u3 i2 u9)),(72,some (.cells 77 [.own 69 true u6.length,.own 70 true u8.length,.own 71 true (anu u1 u3 i2 u9)])),(118,none)]⟩) ⟨⟨tR,tR,tR,tR,tR,trivial⟩,hN 6 ⟨rfl,oW,⟨rfl,cu ⟨eZ.refl _,eZ.refl _,cW,trivial⟩,.refl _⟩⟩⟩) ?_
            obtain rfl:=oi h
            exact⟨.inl rfl,by kernel_rfl⟩
           ·skip
            refine aO h fun a1 h=> ?_
            refine aI (cO.le (st':=⟨ahq u3 i2,[gm p p1 p2 v1,dL,Bv u1,Co u1,pU u6,rH u8,uM u9,uW u9 u6 u8,(118,none),(121,some (.cells 164 [cI ((at' (u3.map Prod.fst) i2).e0),cI 1]))]⟩) ⟨⟨tR,tR,tR,tR,tR,tR,tR,trivial⟩,hN 9 ⟨rfl,cu ⟨eZ.refl _,eZ.of (congrArg (fun n=>CV.d (.int .i64 n)) a1),trivial⟩,trivial⟩⟩) ?_
            refine aO h fun⟨a1,a2⟩ h=> ?_
            refine di tT mX ⟨acr,[gm p p1 p2 v1,dL,Bv u1,Co u1,pU u6,rH u8,(71,some (.arr 164 2 u9.length (YT u1 u3 i2 u9))),uW u9 u6 u8,(118,none)]⟩ [(0:Int)≤0∧(0:Int)<(2:Nat),(0:Int)≤1∧(1:Int)<(2:Nat),_,_,_,(0:Int)≤1∧(1:Int)<(2:Nat),_,aZ u9.length 2 (aj6 u1 u3 i2 u9) (YT u1 u3 i2 u9)] {an:=[(17, .arr 0 (YT u1 u3 i2 u9))] } [] ⟨(by decide),(by decide),a1,tL a1,a2,(by decide),tL a2,dA _ _ _ _ _ _ _ _ rfl (fun j hj=>(match j,hj with|0,_=>rfl|1,_=>rfl)),trivial⟩ (cO.le (st':=⟨acr,[gm p p1 p2 v1,dL,Bv u1,Co u1,pU u6,rH u8,(71,some (akj u1 u3 i2 u9)),(72,some (.cells 77 [.own 69 true u6.length,.own 70 true u8.length,.own 71 true (aku u1 u3 i2 u9)])),(118,none)]⟩) ⟨⟨tR,tR,tR,tR,tR,trivial⟩,hN 6 ⟨rfl,oW,⟨rfl,cu ⟨eZ.refl _,eZ.refl _,cW,trivial⟩,.refl _⟩⟩⟩) ?_
            obtain rfl:=oi h
            exact⟨.inl rfl,by kernel_rfl⟩
          ·clear hy
           obtain⟨w2,rfl⟩: ∃q,q=y6:=⟨_,rfl⟩
           refine aI (fz ⟨[(2,vP 63 0),(4,vP 65 0),(9,vP 67 0),(10,vP 72 0)],[gm p p1 p2 v1,dL,Bv u1,Co u1,pU u6,rH u8,uM w2,uW w2 u6 u8]⟩ []) ?_
           refine aQ (aO h fun⟨a1,a2,a3⟩ h=> ?_)
           refine rg tT ⟨[(2,vP 63 0),(4,vP 65 0),(9,vP 67 0),(10,vP 72 0),(28,vP 123 0)],[gm p p1 p2 v1,dL,Bv u1,Co u1,pU u6,rH u8,uM w2,uW w2 u6 u8,aaF p,abh p]⟩ [_,(p.ax:Int)=p.ax,_,_,(K9 p).length=p.ax.toNat,aZ p.ax.toNat 1 (fun _ j=>[.bool false].getD j .nilp) (Tq p)] {an:=[(2, .arr (K9 p).length (Tq p))],fr:=[(2,122),(3,123)] } [] ⟨a1,rfl,a2,a3,List.length_replicate,fe _ _ _ _ _ (fun j hj=>(match j,hj with|0,_=>rfl)),trivial⟩ ?_
           refine aQ (aQ (bE h fun um hr_9 h=> ?_))
           have q0:=rk [(0,67),(1,68),(2,124)] (ko u1 hr_9)
           refine ri tT ⟨anF,[gm p p1 p2 v1,dL,(67,some (ald u1)),pU u6,rH u8,uM w2,uW w2 u6 u8,aaF p,abh p,(124,some (.cells 157 [.ptr 67 0]))]⟩ [_,u1.bP.length=u1.bP.length] {an:=[(1,cA q0 [67,68])] } [68] ⟨q0,rfl,trivial⟩ (.trans (fz ⟨anF,[gm p p1 p2 v1,dL,pU u6,rH u8,uM w2,uW w2 u6 u8,aaF p,abh p,(124,some (ajL u1))]⟩ [67]) (fz ⟨ajg u1,[gm p p1 p2 v1,dL,pU u6,rH u8,uM w2,uW w2 u6 u8,aaF p,abh p]⟩ [124])) ?_
           refine aB (bE h fun x4 hr_10 h=> ?_)
           refine mg 125 [(2,vP 63 0),(28,vP 123 0)] [] [125,63,123,122] (.jl []) [(125,some (.loop fF 0 [(2,vP 63 0),(28,vP 123 0)])),gm p p1 p2 v1,(123,some (.cells 27 [.own 122 true x4.length])),(122,some (bW 4 1 aF x4))] (ahZ u1) 121 [] (amr u1) [(125,some (.loop fF 0 [(2,vP 63 0),(28,vP 123 0)])),gm p p1 p2 v1,abh p,aaF p] [.one (.yl 125),sD (aea u1)] fF 0 [(2,vP 63 0),(28,vP 123 0)] (by kernel_rfl) (by kernel_rfl) (by kernel_rfl) (by kernel_rfl) (by kernel_rfl) (by kernel_rfl) (by kernel_rfl) (rK [(0,125),(1,63),(2,123),(3,122)] (lg u1.bP u1.from_ (⟨p.ax,p1,p2,v1⟩:au) (K9 p) hr_10)) (by kernel_rfl) rfl (IG.zero rfl) (cO.fin (st':=⟨ajg u1,[gm p p1 p2 v1,dL,pU u6,rH u8,uM w2,uW w2 u6 u8,(122,some (bW 4 1 aF x4)),(123,some (.cells 27 [.own 122 true x4.length]))]⟩) (cs:=[]) ⟨[],[(63,63),(65,65),(69,69),(70,70),(71,71),(72,72),(122,122),(123,123)]⟩ [2,4,10,28,235] (by kernel_rfl) trivial) ?_
           refine sj tT mX ⟨[(4,vP 65 0),(5,vD (bJ (some true) 1 aF x4)),(6,vI 0)],[(65,some (.cells 77 [.d (YP u6),.d (YP u8),.d (bJ (some true) 2 aj.cell w2)]))]⟩ [x4.length=x4.length,u6.length=u6.length,u8.length=u8.length,w2.length=w2.length] {} [69,70,71,122] ⟨rfl,rfl,rfl,rfl,trivial⟩ (fz ⟨[(4,vD (ow [YP u6,YP u8,bJ (some true) 2 aj.cell w2] 0)),(5,vD (bJ (some true) 1 aF x4)),(6,vI 0)],[]⟩ [65]) ?_
           refine aI (cO.le (st':=⟨[(4,vD (ow [Dk u6,Dk u8,bJ none 2 aj.cell w2] 0)),(5,vD (bJ none 1 aF x4)),(6,vI 0)],[]⟩) ⟨⟨⟨_,rfl,eB.v (fG.one (eZ.d (SI ⟨iM.qB,iM.qB,iM.qB,trivial⟩)))⟩,⟨_,rfl,eB.v (fG.one (eZ.d iM.qB))⟩,tR,trivial⟩,trivial⟩) ?_
           refine aR ?_
           obtain rfl:=oi h
           exact rl [.agg [.d (Dk u6),.d (Dk u8),.d (bJ none 2 aj.cell w2)],sD (bJ none 1 aF x4),sI 0]
       |ret v=>
        obtain rfl:=oi h
        unfold dZ
        intro e st hn ha hR
        cases e with
        |normal=>exact absurd rfl hn
        |exit id=>exact hR
        |goto l=>exact hR
        |ret=>exact hR
        |panic c=>exact hR
        |outgrown=>exact hR
     |ret v=>
      obtain rfl:=oi h
      unfold dZ
      intro e st hn ha hR
      cases e with
      |normal=>exact absurd rfl hn
      |exit id=>exact hR
      |goto l=>exact hR
      |ret=>exact hR
      |panic c=>exact hR
      |outgrown=>exact hR
   |ret v=>
    obtain rfl:=oi h
    unfold dZ
    intro e st hn ha hR
    cases e with
    |normal=>exact absurd rfl hn
    |exit id=>exact hR
    |goto l=>exact hR
    |ret=>exact hR
    |panic c=>exact hR
    |outgrown=>exact hR
def LD  :(Int × (List ay) × (List aH) × (List aK) × (List Bool) × (List Bool) × (List Bool) × (List Bool) × (List Bool) × (List Bool) × (List Bool) × (List Bool))→Exit→St→Prop:=
  fun r=>bL TT [.tmp 6] (vD (.fn 124 3 (qC [ow [.int .i64 r.1,bJ none 5 ay.cell r.2.1,bJ none 6 aH.cell r.2.2.1,bJ none 4 aK.cell r.2.2.2.1] 0,ow [bJ none 1 aF r.2.2.2.2.1,bJ none 1 aF r.2.2.2.2.2.1,bJ none 1 aF r.2.2.2.2.2.2.1,bJ none 1 aF r.2.2.2.2.2.2.2.1,bJ none 1 aF r.2.2.2.2.2.2.2.2.1,bJ none 1 aF r.2.2.2.2.2.2.2.2.2.1,bJ none 1 aF r.2.2.2.2.2.2.2.2.2.2.1] 0,ow [bJ none 1 aF r.2.2.2.2.2.2.2.2.2.2.2] 0]))) []
section
variable (p:au) (s_:aA) (u0:List Bool)
abbrev aie:List SV:=[.agg (k22 p),.agg (k5 s_),sD (bJ none 1 aF u0)]
abbrev VE:DV:=(ow [bJ none 1 aF u0] 0)
abbrev akT:=(qC [k28 p,k9 s_,VE u0])
end
theorem Af (p:au) (s_:aA) (u0:List Bool) {r:Int × (List ay) × (List aH) × (List aK) × (List Bool) × (List Bool) × (List Bool) × (List Bool) × (List Bool) × (List Bool) × (List Bool) × (List Bool)} (h:oU p s_ u0=some r):Fn Try.prog 82 (aie p s_ u0) [] (vD (.fn 124 3 (qC [ow [.int .i64 r.1,bJ none 5 ay.cell r.2.1,bJ none 6 aH.cell r.2.2.1,bJ none 4 aK.cell r.2.2.2.1] 0,ow [bJ none 1 aF r.2.2.2.2.1,bJ none 1 aF r.2.2.2.2.2.1,bJ none 1 aF r.2.2.2.2.2.2.1,bJ none 1 aF r.2.2.2.2.2.2.2.1,bJ none 1 aF r.2.2.2.2.2.2.2.2.1,bJ none 1 aF r.2.2.2.2.2.2.2.2.2.1,bJ none 1 aF r.2.2.2.2.2.2.2.2.2.2.1] 0,ow [bJ none 1 aF r.2.2.2.2.2.2.2.2.2.2.2] 0]))) []:=by
 refine fN tT Try.func82 rfl rfl fun B=> ?_
 show bR _ _ _ _ _ _ (LD r) _
 unfold oU at h
 refine sz tT ⟨[bg p,bG s_,(5,vD (VE u0))],[]⟩ {fr:=[(0,3),(1,4),(2,5)] } [3,4,5] ?_
 refine sz tT ⟨[(6,vD (.fn 124 3 (akT p s_ u0)))],[]⟩ {} [] ?_
 refine aR ?_
 obtain rfl:=oi h
 exact rl [sD (.fn 124 3 (akT p s_ u0))]
def gZ  :(aD × (List Bool) × Int)→Exit→St→Prop:=
  fun r=>bL TT [.cell 4 77, .tmp 5, .tmp 6] (.jl [.agg [.own 0 false r.1.ah.length,.own 1 false r.1.ai.length,.own 2 false r.1.af.length],.one (.own 3 false r.2.1.length),sI r.2.2]) [(0,some (bW 3 1 (aT .i64) r.1.ah)),(1,some (bW 3 1 (aT .i64) r.1.ai)),(2,some (bW 164 2 aj.cell r.1.af)),(3,some (bW 4 1 aF r.2.1)),(4,none)]
section
variable (s_:aA) (p:au) (u1:Int) (n1:List (List Int)) (n0:List bU) (u0:List (Int × Int))
abbrev vN:Nat × TV:=(11,.v (.one (.mp 77)))
abbrev sN:Nat × TV:=(12,.v (.one (.mp 78)))
abbrev qH:Nat × TV:=(13,.v (.one (.mp 79)))
abbrev anA:List (Nat × TV):=[(2,vP 63 0),k10 s_,(4,vP 65 0),qf p,(9,vP 71 0),(10,vP 76 0),vN,sN,qH,Ni p,M0 p,(68,vI u1)]
abbrev ZP:Nat × Option Ob:=(70,some (.rows 40 1 n1.length (CS wI n1) none))
abbrev abr:Nat × Option Ob:=(71,some (.cells 161 [.own 72 false n0.length,.own 70 true n1.length]))
abbrev Sy:Nat × Option Ob:=(72,some (bW 170 2 bU.cell n0))
abbrev aaS:Nat × Option Ob:=(73,some (bW 3 1 (aT .i64) (RU p)))
abbrev RL:Nat × Option Ob:=(74,some (agr p))
abbrev PE:Nat × Option Ob:=(75,some (ajq p))
abbrev ab1:Nat × Option Ob:=(76,some (.cells 77 [.own 73 true ((RU p).length),.own 74 true (aag p),.own 75 true (ZI p)]))
abbrev Ib:Nat × Option Ob:=(77,some (adU u0))
abbrev abM:Nat × Option Ob:=(78,some ac1)
abbrev SA:Nat × Option Ob:=(79,some (Zy 164 3 true false 2 1 aj.cell (aT .i64) ([]:(List (aj × Int)))))
abbrev ZE:List (Nat × Option Ob):=[CJ p,dL,ZP n1,abr n1 n0,Sy n0,aaS p,RL p,PE p,ab1 p,Ib u0,abM,SA]
end
def yh (p:au) (s_:aA):((List bU) × (List (List Int)) × (List (Int × Int)) × Int)→St:=
  fun zz=>match zz with|(n0,n1,u0,u1)=> ⟨anA s_ p u1,ZE p n1 n0 u0⟩
section
variable (s_:aA) (p:au) (x0:List Int) (p1:List ay) (u0:List (List Int)) (u1:List bU) (u2:List (Int × Int))
abbrev ab5:List (Nat × TV):=[(2,vP 63 0),k10 s_,(4,vP 65 0),qf p,(9,vP 71 0),(10,vP 76 0),vN,sN,qH]
abbrev pE:Nat × Option Ob:=(73,some (Gy x0))
abbrev acU:Nat × Option Ob:=(76,some (.cells 77 [.own 73 true x0.length,.own 74 true (aag p),.own 75 true (ZI p)]))
abbrev aiy:List (Nat × Option Ob):=[TR p p1,dL,ZP u0,abr u0 u1,Sy u1,pE x0,RL p,PE p,acU p x0,Ib u2,abM,SA]
end
def yM (p:au) (s_:aA):((List ay) × (List bU) × (List (List Int)) × (List Int) × (List (Int × Int)))→St:=
  fun zz=>match zz with|(p1,u1,u0,x0,u2)=> ⟨ab5 s_ p,aiy p x0 p1 u0 u1 u2⟩
def Io (p:au) (s_:aA):(aY ((List bU) × (List (List Int)) × (List (Int × Int)) × Int) (Ex ((List ay) × (List bU) × (List (List Int)) × (List Int) × (List (Int × Int))) (aD × (List Bool) × Int)))→Exit→St→Prop:=
  LQ 0 [] (yh p s_) (yM p s_) gZ
section
variable (s_:aA) (p:au) (u4:Int) (u3:List (Int × Int)) (p1:List ay) (u0:List (List Int)) (u1:List bU) (x0:List Int) (u2:List (Int × Int))
abbrev al0:List (Nat × TV):=[(2,vP 63 0),k10 s_,(4,vP 65 0),qf p,(9,vP 71 0),(10,vP 76 0),vN,sN,qH,MZ p,MW p,(90,vI u4)]
abbrev HZ:Nat × Option Ob:=(78,some (adU u3))
abbrev Zv:List (Nat × Option Ob):=[TR p p1,dL,ZP u0,abr u0 u1,Sy u1,pE x0,RL p,PE p,acU p x0,Ib u2,HZ u3,SA]
end
def zu (p:au) (s_:aA) (p1:List ay) (x0:List Int) (u2:List (Int × Int)):((List bU) × (List (List Int)) × (List (Int × Int)) × Int)→St:=
  fun zz=>match zz with|(u1,u0,u3,u4)=> ⟨al0 s_ p u4,Zv p u3 p1 u0 u1 x0 u2⟩
section
variable (x1:List Int) (p:au) (p1:List ay) (p2:List aH) (u0:List (List Int)) (u1:List bU) (x0:List Int) (u2:List (Int × Int)) (u3:List (Int × Int))
abbrev qX:Nat × Option Ob:=(74,some (Gy x1))
abbrev aj2:List (Nat × Option Ob):=[ane p p1 p2,dL,ZP u0,abr u0 u1,Sy u1,pE x0,qX x1,PE p,(76,some (.cells 77 [.own 73 true x0.length,.own 74 true x1.length,.own 75 true (ZI p)])),Ib u2,HZ u3,SA]
end
def yQ (p:au) (s_:aA) (p1:List ay) (x0:List Int) (u2:List (Int × Int)):((List aH) × (List bU) × (List (List Int)) × (List Int) × (List (Int × Int)))→St:=
  fun zz=>match zz with|(p2,u1,u0,x1,u3)=> ⟨ab5 s_ p,aj2 x1 p p1 p2 u0 u1 x0 u2 u3⟩
def Hq (p:au) (s_:aA) (p1:List ay) (x0:List Int) (u0:List (Int × Int)):(aY ((List bU) × (List (List Int)) × (List (Int × Int)) × Int) (Ex ((List aH) × (List bU) × (List (List Int)) × (List Int) × (List (Int × Int))) (aD × (List Bool) × Int)))→Exit→St→Prop:=
  LQ 2 [] (zu p s_ p1 x0 u0) (yQ p s_ p1 x0 u0) gZ
section
variable (s_:aA) (u4:Int) (u6:List aK) (u7:Int) (u8:Int) (x2:List aj) (x0:List Int) (x1:List Int) (u5:List (aj × Int)) (p:au) (p1:List ay) (p2:List aH) (p3:List aK) (u0:List (List Int)) (u1:List bU) (u2:List (Int × Int)) (u3:List (Int × Int))
abbrev ai1:List (Nat × TV):=[(2,vP 63 0),k10 s_,(4,vP 65 0),(8,vI u4),(9,vP 71 0),(10,vP 76 0),vN,sN,qH,BS u6,(116,vI u7),(117,vI u8)]
abbrev tO:Nat × Option Ob:=(75,some (bW 164 2 aj.cell x2))
abbrev uZ:Nat × Option Ob:=(76,some (.cells 77 [.own 73 true x0.length,.own 74 true x1.length,.own 75 true x2.length]))
abbrev Kg:Nat × Option Ob:=(79,some (Zy 164 3 true false 2 1 aj.cell (aT .i64) u5))
abbrev ab8:List (Nat × Option Ob):=[gm p p1 p2 p3,dL,ZP u0,abr u0 u1,Sy u1,pE x0,qX x1,tO x2,uZ x2 x0 x1,Ib u2,HZ u3,Kg u5]
end
def yF (p:au) (s_:aA) (p1:List ay) (x0:List Int) (u2:List (Int × Int)) (p2:List aH) (x1:List Int) (u3:List (Int × Int)):((List aK) × Int × (List bU) × (List (List Int)) × (List aj) × (List (aj × Int)) × (List aK) × Int × Int)→St:=
  fun zz=>match zz with|(p3,u4,u1,u0,x2,u5,u6,u7,u8)=> ⟨ai1 s_ u4 u6 u7 u8,ab8 x2 x0 x1 u5 p p1 p2 p3 u0 u1 u2 u3⟩
section
variable (u6:Int) (p:au) (p1:List ay) (p2:List aH) (u5:List aK) (u0:List (List Int)) (u1:List bU) (x0:List Int) (x1:List Int) (u2:List aj) (u3:List (Int × Int)) (u4:List (Int × Int)) (u7:List (aj × Int))
abbrev aia:List (Nat × TV):=[(2,vP 63 0),(4,vP 65 0),(8,vI u6),(9,vP 71 0),(10,vP 76 0),vN,sN,qH]
abbrev amu:St:=⟨aia u6,ab8 u2 x0 x1 u7 p p1 p2 u5 u0 u1 u3 u4⟩
end
def yD (p:au) (p1:List ay) (x0:List Int) (u3:List (Int × Int)) (p2:List aH) (x1:List Int) (u4:List (Int × Int)):((List aK) × Int × (List bU) × (List (List Int)) × (List aj) × (List (aj × Int)))→St:=
  fun zz=>match zz with|(u5,u6,u1,u0,u2,u7)=>(amu u6 p p1 p2 u5 u0 u1 x0 x1 u2 u3 u4 u7)
def rq (p:au) (s_:aA) (p1:List ay) (x0:List Int) (u0:List (Int × Int)) (p2:List aH) (x1:List Int) (u1:List (Int × Int)):(aY ((List aK) × Int × (List bU) × (List (List Int)) × (List aj) × (List (aj × Int)) × (List aK) × Int × Int) (Ex ((List aK) × Int × (List bU) × (List (List Int)) × (List aj) × (List (aj × Int))) (aD × (List Bool) × Int)))→Exit→St→Prop:=
  LQ 4 [] (yF p s_ p1 x0 u0 p2 x1 u1) (yD p p1 x0 u0 p2 x1 u1) gZ
section
variable (s_:aA) (u6:Int) (u0:Int) (u1:List aK) (u7:Int) (u9:Int) (p:au) (p1:List ay) (p2:List aH) (p3:List aK) (u2:List (List Int)) (u3:List bU) (x0:List Int) (x1:List Int) (x2:List aj) (u4:List (Int × Int)) (u5:List (Int × Int)) (u8:List (aj × Int))
abbrev akF:List (Nat × TV):=[(2,vP 63 0),k10 s_,(4,vP 65 0),(8,vI u6),(9,vP 71 0),(10,vP 76 0),vN,sN,qH,(18,vI u0),Ki u1 u0,BS u1,(116,vI u7),(117,vI u0),M6 u1 u0,(134,vI u9)]
abbrev WJ:List (Nat × Option Ob):=[gm p p1 p2 p3,dL,ZP u2,(71,some (.cells 161 [.own 115 false u3.length,.own 70 true u2.length])),pE x0,qX x1,tO x2,uZ x2 x0 x1,Ib u4,HZ u5,Kg u8,(115,some (bW 170 2 bU.cell u3))]
end
def zJ (p:au) (s_:aA) (p1:List ay) (x0:List Int) (u4:List (Int × Int)) (p2:List aH) (x1:List Int) (u5:List (Int × Int)) (p3:List aK) (u6:Int) (x2:List aj) (u1:List aK) (u7:Int) (u0:Int):((List bU) × (List (List Int)) × (List (aj × Int)) × Int)→St:=
  fun zz=>match zz with|(u3,u2,u8,u9)=> ⟨akF s_ u6 u0 u1 u7 u9,WJ p p1 p2 p3 u2 u3 x0 x1 x2 u4 u5 u8⟩
section
variable (s_:aA) (u4:Int) (u5:List aK) (u6:Int) (u7:Int) (p:au) (p1:List ay) (p2:List aH) (p3:List aK) (u0:List (List Int)) (u1:List bU) (x0:List Int) (x1:List Int) (x2:List aj) (u2:List (Int × Int)) (u3:List (Int × Int)) (u8:List (aj × Int))
abbrev ajY:St:=⟨ai1 s_ u4 u5 u6 u7,WJ p p1 p2 p3 u0 u1 x0 x1 x2 u2 u3 u8⟩
end
def zL (p:au) (s_:aA) (p1:List ay) (x0:List Int) (u2:List (Int × Int)) (p2:List aH) (x1:List Int) (u3:List (Int × Int)) (p3:List aK) (u4:Int) (x2:List aj) (u5:List aK) (u6:Int) (u7:Int):((List bU) × (List (List Int)) × (List (aj × Int)))→St:=
  fun zz=>match zz with|(u1,u0,u8)=>(ajY s_ u4 u5 u6 u7 p p1 p2 p3 u0 u1 x0 x1 x2 u2 u3 u8)
def Ik (p:au) (s_:aA) (p1:List ay) (x0:List Int) (u0:List (Int × Int)) (p2:List aH) (x1:List Int) (u1:List (Int × Int)) (p3:List aK) (u2:Int) (x2:List aj) (u3:List aK) (u4:Int) (u5:Int):(aY ((List bU) × (List (List Int)) × (List (aj × Int)) × Int) (Ex ((List bU) × (List (List Int)) × (List (aj × Int))) (aY ((List aK) × Int × (List bU) × (List (List Int)) × (List aj) × (List (aj × Int)) × (List aK) × Int × Int) (Ex ((List aK) × Int × (List bU) × (List (List Int)) × (List aj) × (List (aj × Int))) (aD × (List Bool) × Int)))))→Exit→St→Prop:=
  LQ 6 [5] (zJ p s_ p1 x0 u0 p2 x1 u1 p3 u2 x2 u3 u4 u5) (zL p s_ p1 x0 u0 p2 x1 u1 p3 u2 x2 u3 u4 u5) (rq p s_ p1 x0 u0 p2 x1 u1)
section
variable (u0:aN) (p:au) (p1:List ay) (p2:List aH) (u4:List aK) (u2:List Int) (x1:List Int) (u1:List aj) (u3:List (Int × Int)) (u5:List (aj × Int))
abbrev ah1:List (Nat × TV):=[(2,vP 63 0),(4,vP 65 0),(9,vP 71 0),(10,vP 76 0),sN,qH,(162,vP 120 0)]
abbrev BN:Nat × Option Ob:=(71,some (.cells 161 [.own 72 false u0.bP.length,.d (O4 u0)]))
abbrev BO:Nat × Option Ob:=(72,some (bW 170 2 bU.cell u0.bP))
abbrev alj:List (Nat × Option Ob):=[gm p p1 p2 u4,dL,BN u0,BO u0,pE u2,qX x1,tO u1,uZ u1 u2 x1,HZ u3,Kg u5,(120,none)]
abbrev akC:St:=⟨ah1,alj u0 p p1 p2 u4 u2 x1 u1 u3 u5⟩
end
def Ig (p:au) (p1:List ay) (p2:List aH) (x1:List Int) (u3:List (Int × Int)) (u4:List aK) (u1:List aj) (u5:List (aj × Int)) (u0:aN):(List Int)→St:=
  fun u2=>(akC u0 p p1 p2 u4 u2 x1 u1 u3 u5)
section
variable (p:au) (p1:List ay) (p2:List aH) (u4:List aK) (u0:aN) (u2:List Int) (u3:List Int) (u1:List aj) (u5:List (aj × Int))
abbrev af6:List (Nat × TV):=[(2,vP 63 0),(4,vP 65 0),(9,vP 71 0),(10,vP 76 0),qH,(182,vP 121 0)]
abbrev aiT:List (Nat × Option Ob):=[gm p p1 p2 u4,dL,BN u0,BO u0,pE u2,qX u3,tO u1,uZ u1 u2 u3,Kg u5,(121,none)]
abbrev ai6:St:=⟨af6,aiT p p1 p2 u4 u0 u2 u3 u1 u5⟩
end
def IB (p:au) (p1:List ay) (p2:List aH) (u4:List aK) (u1:List aj) (u5:List (aj × Int)) (u0:aN) (u2:List Int):(List Int)→St:=
  fun u3=>(ai6 p p1 p2 u4 u0 u2 u3 u1 u5)
section
variable (p:au) (p1:List ay) (p2:List aH) (u4:List aK) (u0:aN) (u1:List Int) (u2:List Int) (u3:List aj)
abbrev aaC:List (Nat × TV):=[(2,vP 63 0),(4,vP 65 0),(9,vP 71 0),(10,vP 76 0),(208,vP 122 0)]
abbrev amg:St:=⟨aaC,[gm p p1 p2 u4,dL,BN u0,BO u0,pE u1,qX u2,tO u3,uZ u3 u1 u2,(122,none)]⟩
end
def Ii (p:au) (p1:List ay) (p2:List aH) (u4:List aK) (u0:aN) (u1:List Int) (u2:List Int):(List aj)→St:=
  fun u3=>(amg p p1 p2 u4 u0 u1 u2 u3)
section
variable (r_:Int) (s_:aA) (p:au) (v4:Int × aN) (v0:Int) (v9:List (Int × Int)) (p1:List ay) (v5:Int × aN) (x0:List Int) (u4:List (Int × Int)) (u7:Int) (w0:List (Int × Int)) (v7:Int) (u0:Int) (u2:List aK) (w1:Int) (x4:Int × aN) (p2:List aH) (p3:List aK) (x1:List Int) (x2:List aj) (u5:List (Int × Int)) (x9:List (aj × Int)) (v6:Int × aN) (v3:Int) (x5:List bU) (x6:List (List Int)) (u1:aN) (u3:List (aj × Int)) (i2:Nat) (u6:List Int)
abbrev agK:List (Nat × TV):=[(4,vP 65 0),(5,vO 66 false 0),(6,vI r_)]
abbrev ahw:Nat × Option Ob:=(66,some (.arr 4 1 0 (aS aF ([]:List Bool))))
abbrev af8:Nat × Option Ob:=(67,some (.arr 3 1 0 (aS (aT .i64) ([]:List Int))))
abbrev aiO:List CV:=[.own 0 false (([]:List Int).length),.own 1 false (([]:List Int).length),.own 2 false (([]:List aj).length)]
abbrev adZ:List (Nat × TV):=[(2,vP 63 0),k10 s_,(4,vP 65 0),qf p,(9,vP 71 0)]
abbrev al5:List CV:=[.d nS,.own 70 true (ZT p)]
abbrev anE:Nat × Option Ob:=(71,some (.cells 161 (al5 p)))
abbrev aaJ:Nat × Option Ob:=(70,some (.rows 40 1 (Jq p).length (alA p) none))
abbrev ahT:Nat × Option Ob:=(71,some (.cells 161 [.own 72 false (([]:List bU).length),.own 70 true (ZT p)]))
abbrev agT:Nat × Option Ob:=(72,some (bW 170 2 bU.cell ([]:List bU)))
abbrev aj8:List (Nat × Option Ob):=[CJ p,dL,aaJ p,ahT p,agT,aaS p,RL p,PE p,ab1 p,(77,some ac1),abM,SA]
abbrev UW:Nat × Option Ob:=(70,some (.rows 40 1 v4.2.from_.length (CS wI v4.2.from_) none))
abbrev ali:List (Nat × Option Ob):=[CJ p,dL,UW v4,(71,some (.cells 161 [.own 87 false v4.2.bP.length,.own 70 true v4.2.from_.length])),aaS p,RL p,PE p,ab1 p,(77,some (UD v0 v4 v9)),abM,SA,(87,some (LB v4))]
abbrev ahV:List (Nat × TV):=[(2,vP 63 0),k10 s_,(4,vP 65 0),qf p,(9,vP 71 0),(10,vP 76 0),vN,sN,qH,Ni p,M0 p,(68,k3 v0)]
abbrev amV:Nat × Option Ob:=(71,some (.cells 161 [.own 72 false v4.2.bP.length,.own 70 true v4.2.from_.length]))
abbrev am8:List (Nat × Option Ob):=[TR p p1,dL,UW v5,(71,some (.cells 161 [.own 95 false v5.2.bP.length,.own 70 true v5.2.from_.length])),pE x0,RL p,PE p,acU p x0,Ib u4,(78,some (UD u7 v5 w0)),SA,(95,some (LB v5))]
abbrev ahP:List (Nat × TV):=[(2,vP 63 0),k10 s_,(4,vP 65 0),qf p,(9,vP 71 0),(10,vP 76 0),vN,sN,qH,MZ p,MW p,(90,k3 u7)]
abbrev ame:List (Nat × TV):=[(2,vP 63 0),k10 s_,(4,vP 65 0),(8,vI v7),(9,vP 71 0),(10,vP 76 0),vN,sN,qH,(18,vI u0),Ki u2 u0,BS u2,(116,vI w1),(117,vI u0)]
abbrev amT:Nat × Option Ob:=(71,some (.cells 161 [.own 115 false x4.2.bP.length,.own 70 true x4.2.from_.length]))
abbrev ajV:List (Nat × Option Ob):=[gm p p1 p2 p3,dL,UW x4,amT x4,pE x0,qX x1,tO x2,uZ x2 x0 x1,Ib u4,HZ u5,Kg x9,adG x4]
abbrev alJ:Nat × Option Ob:=(71,some (.cells 161 [.own 119 false v6.2.bP.length,.own 70 true v6.2.from_.length]))
abbrev aio:List (Nat × TV):=[(2,vP 63 0),k10 s_,(4,vP 65 0),(8,vI v7),(9,vP 71 0),(10,vP 76 0),vN,sN,qH,(18,vI u0),Ki u2 u0,BS u2,(116,vI w1),(117,vI u0),M6 u2 u0,(134,k3 v3)]
abbrev ajT:List (Nat × TV):=[(2,vP 63 0),k10 s_,(4,vP 65 0),(8,vI v7),(9,vP 71 0),(10,vP 76 0),vN,sN,qH,BS u2,(116,vI w1),(117,k3 u0)]
abbrev amc:Nat × Option Ob:=(71,some (.cells 161 [.own 72 false x5.length,.d (bJ (some true) 1 (Rf 1 (aT .i64)) x6)]))
abbrev akp:List (Nat × Option Ob):=[BN u1,BO u1]
abbrev afT:List (Nat × TV):=[(2,vP 63 0),(4,vP 65 0),(9,vP 71 0),(10,vP 76 0),(26,vP 125 0),(27,vI (at' (u3.map Prod.snd) i2)),(208,vP 122 0)]
abbrev abq:Nat × Option Ob:=(126,some (aaO p))
abbrev abt:Nat × Option Ob:=(127,some (.cells 27 [.own 126 true (acg p)]))
abbrev ajR:List (Nat × TV):=[(2,vP 63 0),(4,vP 65 0),(10,vP 76 0),(28,vP 127 0),(235,.v (.one (.fn 121 0 1 (EN [.ptr 128 0]))))]
abbrev aj5:List (Nat × TV):=[(2,vP 63 0),(4,vP 65 0),(10,vP 76 0),(28,vP 127 0),ajn u1]
abbrev Lu:Nat × Option Ob:=(0,some (Gy u6))
end
theorem ru (p:au) (s_:aA) {r:aD × (List Bool) × Int} (h:dW p s_=some r):Fn Try.prog 32 (Ms p s_) [] (.jl [.agg [.own 0 false r.1.ah.length,.own 1 false r.1.ai.length,.own 2 false r.1.af.length],.one (.own 3 false r.2.1.length),sI r.2.2]) [(0,some (bW 3 1 (aT .i64) r.1.ah)),(1,some (bW 3 1 (aT .i64) r.1.ai)),(2,some (bW 164 2 aj.cell r.1.af)),(3,some (bW 4 1 aF r.2.1)),(4,none)]:=by
 refine fN tT Try.func32 rfl rfl fun B=> ?_
 show bR _ _ _ _ _ _ (gZ r) _
 unfold dW at h
 refine sz tT (akz p s_) {fr:=[(0,63),(1,64),(2,65)] } [64] ?_
 refine aQ (aQ (bE h fun r_ hr_ h=> ?_))
 have q0:=iD p s_ hr_
 refine rg tT (amM p s_ r_) [_] {an:=[(2,cA q0 [])] } [] ⟨q0,trivial⟩ ?_
 refine sz tT (aju p s_ r_) {} [] ?_
 refine bI h (fun hb9 h=> ?_) (fun hb9 h=> ?_)
 ·refine ct hb9 ?_
  refine sz tT ⟨[(4,vP 65 0),(5,vD nS),(6,vI r_)],[dL]⟩ {} [] ?_
  refine aI (.trans (cO.UF (t:=5) (b:=66) (esz0:=0) (el0:=fun _ _=> .nilp) (E:=4) (esz:=1) (el:=aS aF ([]:List Bool)) (by kernel_rfl) (by kernel_rfl)) (.trans (cO.Dl (E:=0) (esz:=0) (E0:=77) (cs:=[.d nS,.d nS,.d nS]) (p:=65) (q:=0) (b:=67) (esz0:=0) (el0:=fun _ _=> .nilp) (ob:= .arr 3 1 0 (aS (aT .i64) ([]:List Int))) (fun _ _ _ _ h=> .inl ⟨h,rfl⟩) (by kernel_rfl) (by kernel_rfl) (by kernel_rfl)) (.trans (fz ⟨agK r_,[(65,some (.cells 77 [.own 67 false 0,.d nS,.d nS])),ahw,af8]⟩ []) (.trans (cO.Dl (E:=0) (esz:=0) (E0:=77) (cs:=[.own 67 false 0,.d nS,.d nS]) (p:=65) (q:=1) (b:=68) (esz0:=0) (el0:=fun _ _=> .nilp) (ob:= .arr 3 1 0 (aS (aT .i64) ([]:List Int))) (fun _ _ _ _ h=> .inl ⟨h,rfl⟩) (by kernel_rfl) (by kernel_rfl) (by kernel_rfl)) (.trans (fz ⟨agK r_,[(65,some (.cells 77 [.own 67 false 0,.own 68 false 0,.d nS])),ahw,af8,(68,some (.arr 3 1 0 (aS (aT .i64) ([]:List Int))))]⟩ []) (.trans (cO.Dl (E:=0) (esz:=0) (E0:=77) (cs:=[.own 67 false 0,.own 68 false 0,.d nS]) (p:=65) (q:=2) (b:=69) (esz0:=0) (el0:=fun _ _=> .nilp) (ob:= .arr 164 2 0 (aS aj.cell ([]:List aj))) (fun _ _ _ _ h=> .inl ⟨h,rfl⟩) (by kernel_rfl) (by kernel_rfl) (by kernel_rfl)) (.trans (fz ⟨agK r_,[(65,some (.cells 77 [.own 67 false 0,.own 68 false 0,.own 69 false 0])),ahw,af8,(68,some (.arr 3 1 0 (aS (aT .i64) ([]:List Int)))),(69,some (.arr 164 2 0 (aS aj.cell ([]:List aj))))]⟩ []) (.trans (cO.fin (st':=⟨[(4,vP 4 0),(5,vO 3 false 0),(6,vI r_)],[(0,some (.arr 3 1 0 (aS (aT .i64) ([]:List Int)))),(1,some (.arr 3 1 0 (aS (aT .i64) ([]:List Int)))),(2,some (.arr 164 2 0 (aS aj.cell ([]:List aj)))),(3,some (.arr 4 1 0 (aS aF ([]:List Bool)))),(4,some (.cells 77 [.own 0 false 0,.own 1 false 0,.own 2 false 0]))]⟩) (cs:=[]) ⟨[],[(67,0),(68,1),(69,2),(66,3),(65,4)]⟩ [4,5,6] (by kernel_rfl) trivial) (cO.le (st':=⟨[(4,vP 4 0),(5,vO 3 false (([]:List Bool).length)),(6,vI r_)],[(0,some (bW 3 1 (aT .i64) ([]:List Int))),(1,some (bW 3 1 (aT .i64) ([]:List Int))),(2,some (bW 164 2 aj.cell ([]:List aj))),(3,some (bW 4 1 aF ([]:List Bool))),(4,some (.cells 77 aiO))]⟩) ⟨⟨tR,⟨_,rfl,eB.v (fG.one cW)⟩,tR,trivial⟩,⟨rfl,oW,⟨rfl,oW,⟨rfl,oW,⟨rfl,oW,⟨rfl,cu ⟨cW,cW,cW,trivial⟩,trivial⟩⟩⟩⟩⟩⟩))))))))) ?_
  refine aR ?_
  obtain rfl:=oi h
  exact rh [.agg aiO,.one (.own 3 false (([]:List Bool).length)),sI r_] (.refl _) (hN 4 ⟨rfl,trivial,trivial⟩)
 ·refine cf hb9 ?_
  refine aP (sz tT (anI p s_) {} [] ?_)
  refine aQ (aO h fun⟨a1,a2,a3⟩ h=> ?_)
  refine ri tT ⟨adZ s_ p,[CJ p,dL,(70,some (.arr 40 1 (Jq p).length (fun _ j=>[nS].getD j .nilp))),anE p]⟩ [_,(ai5 p)=(adA p),_,_,(Jq p).length=(aaH p),aZ (aaH p) 1 (fun _ j=>[nS].getD j .nilp) (fun _ j=>[nS].getD j .nilp)] {an:=[(2, .arr (Jq p).length (fun _ j=>[nS].getD j .nilp))],fr:=[(2,70),(4,71)] } [] ⟨a1,rfl,a2,a3,List.length_replicate,fQ _ _ _,trivial⟩ (.trans (cO.acE (b:=70) (E:=40) (esz:=1) (len:=(Jq p).length) (el:=(fun _ j=>[nS].getD j .nilp)) (el':=CS wI (Jq p)) (by kernel_rfl) (fun i hi j hj=>match j,hj with|0,_=>Tj _ _ _ _ _ _ _ _)) (.trans (fz ⟨adZ s_ p,[CJ p,dL,aaJ p,anE p]⟩ []) (.trans (cO.Dl (E:=0) (esz:=0) (E0:=161) (cs:=(al5 p)) (p:=71) (q:=0) (b:=72) (esz0:=0) (el0:=fun _ _=> .nilp) (ob:= .arr 170 2 0 (aS bU.cell ([]:List bU))) (fun _ _ _ _ h=> .inl ⟨h,rfl⟩) (by kernel_rfl) (by kernel_rfl) (by kernel_rfl)) (.trans (fz ⟨adZ s_ p,[CJ p,dL,aaJ p,(71,some (.cells 161 [.own 72 false 0,.own 70 true (ZT p)])),(72,some (.arr 170 2 0 (aS bU.cell ([]:List bU))))]⟩ []) (cO.le (st':=⟨adZ s_ p,[CJ p,dL,aaJ p,ahT p,agT]⟩) ⟨⟨tR,tR,tR,tR,tR,trivial⟩,hN 3 ⟨rfl,cu ⟨cW,eZ.refl _,trivial⟩,⟨rfl,oW,trivial⟩⟩⟩))))) ?_
  refine aQ (aO h fun⟨a1,a2,a3,a4,a5,a6,a7,a8,a9⟩ h=> ?_)
  refine dg tT mX ⟨[(2,vP 63 0),k10 s_,(4,vP 65 0),qf p,(9,vP 71 0),(10,vP 76 0)],[CJ p,dL,aaJ p,ahT p,agT,aaS p,RL p,PE p,ab1 p]⟩ [_,((p.ah.length:Int):Int)=(p.ah.length:Int),_,_,(RU p).length=(aaw p),aZ (aaw p) 1 (fun _ j=>[.int .i64 0].getD j .nilp) (ado p),_,((p.ai.length:Int):Int)=(p.ai.length:Int),_,_,(Sz p).length=(Ws p),aZ (Ws p) 1 (fun _ j=>[.int .i64 0].getD j .nilp) (YL p),_,((p.af.length:Int):Int)=(p.af.length:Int),_,_,(V6 p).length=(aav p),aZ (aav p) 2 (fun _ j=>[.int .i64 0,.int .i64 0].getD j .nilp) (aeu p)] {an:=[(3, .arr (RU p).length (ado p)),(7, .arr (Sz p).length (YL p)),(11, .arr (V6 p).length (aeu p))],fr:=[(3,73),(7,74),(11,75),(13,76)] } [] ⟨a1,rfl,a2,a3,List.length_replicate,fe _ _ _ _ _ (fun j hj=>(match j,hj with|0,_=>rfl)),a4,rfl,a5,a6,List.length_replicate,fe _ _ _ _ _ (fun j hj=>(match j,hj with|0,_=>rfl)),a7,rfl,a8,a9,List.length_replicate,fe _ _ _ _ _ (fun j hj=>(match j,hj with|0,_=>rfl|1,_=>rfl)),trivial⟩ ?_
  refine sz tT ⟨ab5 s_ p,aj8 p⟩ {an:=[(0, .map 0 (Ht (aT .i64) ([]:(List (Int × Int)))) (Hu (aT .i64) ([]:(List (Int × Int)))) []),(1, .map 0 (Ht (aT .i64) ([]:(List (Int × Int)))) (Hu (aT .i64) ([]:(List (Int × Int)))) []),(2, .map 0 (Ht aj.cell ([]:(List (aj × Int)))) (Hu (aT .i64) ([]:(List (aj × Int)))) [])],fr:=[(0,77),(1,78),(2,79)] } [] ?_
  refine aQ (sz tT ⟨[(2,vP 63 0),k10 s_,(4,vP 65 0),qf p,(9,vP 71 0),(10,vP 76 0),vN,sN,qH,Ni p,M0 p,(68,vI 0)],aj8 p⟩ {} [] ?_)
  refine bE h fun y hy h=> ?_
  refine aL [] (yh p s_) (yM p s_) gZ hy (fun s f h=> ?_) ?_
  ·clear hy
   show bR _ _ _ _ _ _ ((Io p s_) f) _
   unfold kD at h
   obtain⟨n0,n1,v9,v0⟩:=s
   refine sz tT ⟨[(2,vP 63 0),k10 s_,(4,vP 65 0),qf p,(9,vP 71 0),(10,vP 76 0),vN,sN,qH,Ni p,M0 p,(68,vI v0),(69,k53 p v0)],ZE p n1 n0 v9⟩ {} [] ?_
   refine aQ ?_
   refine bI h (fun hb1 h=> ?_) (fun hb1 h=> ?_)
   ·refine ct hb1 ?_
    refine aP (aQ (aB (aQ (aO h fun a1 h=> ?_))))
    refine rg tT ⟨[(2,vP 63 0),k10 s_,(4,vP 65 0),qf p,(9,vP 71 0),(10,vP 76 0),vN,sN,qH,(14,vI v0),adV p v0,Ni p,M0 p,(68,vI v0)],ZE p n1 n0 v9⟩ [_] {fr:=[(3,86)] } [86] ⟨a1,trivial⟩ ?_
    refine aQ (bE h fun ui hr_1 h=> ?_)
    have q0:=iB p s_ v0 hr_1
    refine rg tT ⟨[(2,vP 63 0),k10 s_,(4,vP 65 0),qf p,(9,vP 71 0),(10,vP 76 0),vN,sN,qH,(14,vI v0),adV p v0,Ni p,M0 p,(68,vI v0),(76,vB ui)],ZE p n1 n0 v9⟩ [_] {an:=[(3,cA q0 [])] } [] ⟨q0,trivial⟩ ?_
    refine bI h (fun hb h=> ?_) (fun hb h=> ?_)
    ·refine ct hb ?_
     refine bE h fun v4 hr_2 h=> ?_
     have q0:=rk [(0,71),(1,72),(2,70),(3,87)] (dU 0 (IntKind.wrap .i64 ((1:Int)+(k55 p v0))) (k56 p v0) 0 (⟨n0,n1⟩:aN) hr_2)
     refine rg tT ⟨anA s_ p v0,ali p v4 v0 v9⟩ [_,LU [some .i64] 1 1 v9.length (Ht (aT .i64) v9) (Hu (aT .i64) v9) [.int .i64 v0] [cI v4.1] [] (kP TU v0 v4.1 v9).length (UA v0 v4 v9) (U3 v0 v4 v9)] {an:=[(8,cA q0 [71,72,70]),(9, .map (kP TU v0 v4.1 v9).length (UA v0 v4 v9) (U3 v0 v4 v9) [])] } [] ⟨q0,Cr (fun _=>rfl) (fun _ _=>rfl) v9 v0 v4.1 rfl rfl,trivial⟩ ?_
     refine ri tT ⟨ahV s_ p v0,ali p v4 v0 v9⟩ [] {} [] trivial (cO.fin (st':=⟨ahV s_ p v0,[CJ p,dL,UW v4,amV v4,(72,some (LB v4)),aaS p,RL p,PE p,ab1 p,(77,some (UD v0 v4 v9)),abM,SA]⟩) (cs:=[]) ⟨[],[(63,63),(65,65),(70,70),(71,71),(87,72),(73,73),(74,74),(75,75),(76,76),(77,77),(78,78),(79,79)]⟩ [2,3,4,8,9,10,11,12,13,66,67,68] (by kernel_rfl) trivial) ?_
     obtain rfl:=oi h
     exact lN
    ·refine cf hb ?_
     refine aP (rz tT ⟨ahV s_ p v0,ZE p n1 n0 v9⟩ {} [] ?_)
     obtain rfl:=oi h
     exact lN
   ·refine cf hb1 ?_
    refine aI (fz ⟨ab5 s_ p,ZE p n1 n0 v9⟩ []) ?_
    refine aX ?_
    obtain rfl:=oi h
    exact lB
  ·clear hy
   cases y with
   |brk z=>
    obtain⟨p1,ue,uc,x0,u4⟩:=z
    unfold dZ
    refine⟨_, .refl, ?_⟩
    refine aQ (sz tT ⟨[(2,vP 63 0),k10 s_,(4,vP 65 0),qf p,(9,vP 71 0),(10,vP 76 0),vN,sN,qH,MZ p,MW p,(90,vI 0)],aiy p x0 p1 uc ue u4⟩ {} [] ?_)
    refine bE h fun y1 hy h=> ?_
    refine aL [] (zu p s_ p1 x0 u4) (yQ p s_ p1 x0 u4) gZ hy (fun s f h=> ?_) ?_
    ·clear hy
     show bR _ _ _ _ _ _ ((Hq p s_ p1 x0 u4) f) _
     unfold ku at h
     obtain⟨w7,w3,w0,u7⟩:=s
     refine sz tT ⟨[(2,vP 63 0),k10 s_,(4,vP 65 0),qf p,(9,vP 71 0),(10,vP 76 0),vN,sN,qH,MZ p,MW p,(90,vI u7),(91,k65 p u7)],Zv p w0 p1 w3 w7 x0 u4⟩ {} [] ?_
     refine aQ ?_
     refine bI h (fun hb3 h=> ?_) (fun hb3 h=> ?_)
     ·refine ct hb3 ?_
      refine aP (aQ (aB (aQ (aO h fun a1 h=> ?_))))
      refine rg tT ⟨[(2,vP 63 0),k10 s_,(4,vP 65 0),qf p,(9,vP 71 0),(10,vP 76 0),vN,sN,qH,(16,vI u7),adn p u7,MZ p,MW p,(90,vI u7)],Zv p w0 p1 w3 w7 x0 u4⟩ [_] {fr:=[(3,94)] } [94] ⟨a1,trivial⟩ ?_
      refine aQ (bE h fun uj hr_3 h=> ?_)
      have q0:=fA (⟨p.ax,p1,p.ai,p.af⟩:au) s_ u7 hr_3
      refine rg tT ⟨[(2,vP 63 0),k10 s_,(4,vP 65 0),qf p,(9,vP 71 0),(10,vP 76 0),vN,sN,qH,(16,vI u7),adn p u7,MZ p,MW p,(90,vI u7),(98,vB uj)],Zv p w0 p1 w3 w7 x0 u4⟩ [_] {an:=[(3,cA q0 [])] } [] ⟨q0,trivial⟩ ?_
      refine bI h (fun hb2 h=> ?_) (fun hb2 h=> ?_)
      ·refine ct hb2 ?_
       refine bE h fun v5 hr_4 h=> ?_
       have q0:=rk [(0,71),(1,72),(2,70),(3,95)] (dU (IntKind.wrap .i64 ((1:Int)+((at' p.ai u7.toNat).a))) (IntKind.wrap .i64 ((1:Int)+((at' p.ai u7.toNat).b))) (Qi p u7) (Qi p u7) (⟨w7,w3⟩:aN) hr_4)
       refine rg tT ⟨al0 s_ p u7,am8 p p1 v5 x0 u4 u7 w0⟩ [_,LU [some .i64] 1 1 w0.length (Ht (aT .i64) w0) (Hu (aT .i64) w0) [.int .i64 u7] [cI v5.1] [] (kP TU u7 v5.1 w0).length (UA u7 v5 w0) (U3 u7 v5 w0)] {an:=[(13,cA q0 [71,72,70]),(14, .map (kP TU u7 v5.1 w0).length (UA u7 v5 w0) (U3 u7 v5 w0) [])] } [] ⟨q0,Cr (fun _=>rfl) (fun _ _=>rfl) w0 u7 v5.1 rfl rfl,trivial⟩ ?_
       refine ri tT ⟨ahP s_ p u7,am8 p p1 v5 x0 u4 u7 w0⟩ [] {} [] trivial (cO.fin (st':=⟨ahP s_ p u7,[TR p p1,dL,UW v5,amV v5,(72,some (LB v5)),pE x0,RL p,PE p,acU p x0,Ib u4,(78,some (UD u7 v5 w0)),SA]⟩) (cs:=[]) ⟨[],[(63,63),(65,65),(70,70),(71,71),(95,72),(73,73),(74,74),(75,75),(76,76),(77,77),(78,78),(79,79)]⟩ [2,3,4,8,9,10,11,12,13,88,89,90] (by kernel_rfl) trivial) ?_
       obtain rfl:=oi h
       exact lN
      ·refine cf hb2 ?_
       refine aP (rz tT ⟨ahP s_ p u7,Zv p w0 p1 w3 w7 x0 u4⟩ {} [] ?_)
       obtain rfl:=oi h
       exact lN
     ·refine cf hb3 ?_
      refine aI (fz ⟨ab5 s_ p,Zv p w0 p1 w3 w7 x0 u4⟩ []) ?_
      refine aX ?_
      obtain rfl:=oi h
      exact lB
    ·clear hy
     cases y1 with
     |brk z=>
      obtain⟨p2,uf,ud,x1,u5⟩:=z
      unfold dZ
      refine⟨_, .refl, ?_⟩
      refine aQ (sz tT ⟨[(2,vP 63 0),k10 s_,(4,vP 65 0),qf p,(9,vP 71 0),(10,vP 76 0),vN,sN,qH,(115,vD (k25 p)),(116,vI (p.af.length:Int)),(117,vI 0)],aj2 x1 p p1 p2 ud uf x0 u4 u5⟩ {} [] ?_)
      refine bE h fun y3 hy h=> ?_
      refine aL [] (yF p s_ p1 x0 u4 p2 x1 u5) (yD p p1 x0 u4 p2 x1 u5) gZ hy (fun s f h=> ?_) ?_
      ·clear hy
       show bR _ _ _ _ _ _ ((rq p s_ p1 x0 u4 p2 x1 u5) f) _
       unfold kC at h
       obtain⟨p3,v7,x7,x3,x2,x9,u2,w1,u0⟩:=s
       refine sz tT ⟨[(2,vP 63 0),k10 s_,(4,vP 65 0),(8,vI v7),(9,vP 71 0),(10,vP 76 0),vN,sN,qH,BS u2,(116,vI w1),(117,vI u0),(118,vB (decide (u0<w1)))],ab8 x2 x0 x1 x9 p p1 p2 p3 x3 x7 u4 u5⟩ {} [] ?_
       refine aQ ?_
       refine bI h (fun hb6 h=> ?_) (fun hb6 h=> ?_)
       ·refine ct hb6 ?_
        refine aP (aQ (aB (aQ (aO h fun a1 h=> ?_))))
        refine rg tT ⟨ame s_ v7 u0 u2 w1,ab8 x2 x0 x1 x9 p p1 p2 p3 x3 x7 u4 u5⟩ [_] {fr:=[(3,114)] } [114] ⟨a1,trivial⟩ ?_
        refine aQ (bE h fun x4 hr_5 h=> ?_)
        have q0:=rk [(0,71),(1,72),(2,70),(3,115)] (dU (adi p u0) v7 ((at' u2 u0.toNat).aV) 0 (⟨x7,x3⟩:aN) hr_5)
        refine rg tT ⟨ame s_ v7 u0 u2 w1,ajV p p1 x0 u4 x4 p2 p3 x1 x2 u5 x9⟩ [_] {an:=[(9,cA q0 [71,72,70])] } [] ⟨q0,trivial⟩ ?_
        refine sz tT ⟨[(2,vP 63 0),k10 s_,(4,vP 65 0),(8,vI v7),(9,vP 71 0),(10,vP 76 0),vN,sN,qH,(18,vI u0),Ki u2 u0,BS u2,(116,vI w1),(117,vI u0),M6 u2 u0,(134,vI 0)],ajV p p1 x0 u4 x4 p2 p3 x1 x2 u5 x9⟩ {} [] ?_
        refine bE h fun y2 hy h=> ?_
        refine aL [5] (zJ p s_ p1 x0 u4 p2 x1 u5 p3 v7 x2 u2 w1 u0) (zL p s_ p1 x0 u4 p2 x1 u5 p3 v7 x2 u2 w1 u0) (rq p s_ p1 x0 u4 p2 x1 u5) hy (fun s f h=> ?_) ?_
        ·clear hy
         show bR _ _ _ _ _ _ ((Ik p s_ p1 x0 u4 p2 x1 u5 p3 v7 x2 u2 w1 u0) f) _
         unfold iC at h
         obtain⟨w8,w4,w2,v3⟩:=s
         refine sz tT ⟨[(2,vP 63 0),k10 s_,(4,vP 65 0),(8,vI v7),(9,vP 71 0),(10,vP 76 0),vN,sN,qH,(18,vI u0),Ki u2 u0,BS u2,(116,vI w1),(117,vI u0),M6 u2 u0,(134,vI v3),(135,vB (decide (v3<2)))],WJ p p1 p2 p3 w4 w8 x0 x1 x2 u4 u5 w2⟩ {} [] ?_
         refine aQ ?_
         refine bI h (fun hb5 h=> ?_) (fun hb5 h=> ?_)
         ·refine ct hb5 ?_
          refine aP (aQ (aB (aQ (aO h fun a1 h=> ?_))))
          refine rg tT ⟨[(2,vP 63 0),k10 s_,(4,vP 65 0),(8,vI v7),(9,vP 71 0),(10,vP 76 0),vN,sN,qH,(18,vI u0),Ki u2 u0,(20,vI v3),aeD u0 u2 v3,BS u2,(116,vI w1),(117,vI u0),M6 u2 u0,(134,vI v3)],WJ p p1 p2 p3 w4 w8 x0 x1 x2 u4 u5 w2⟩ [_,v3.toNat*1+1≤(acJ u2 u0).length,((acJ u2 u0).drop (v3.toNat*1)).take 1=(adw u0 u2 v3).map .d] {an:=[(1, .vals (adw u0 u2 v3))] } [] ⟨a1,abz (n:=2) (sz:=1) (Nat.le_refl _) a1,aan (n:=2) (sz:=1) (g:=fun q=>[cI (at' [(Bj u2 u0).e0,(Bj u2 u0).e1] q)]) (by intro q hq;match q,hq with|0,_=>rfl|1,_=>rfl) a1,trivial⟩ ?_
          refine aQ (bE h fun ul hr_6 h=> ?_)
          have q0:=nW s_ (aaN u0 u2 v3) hr_6
          refine rg tT ⟨[(2,vP 63 0),k10 s_,(4,vP 65 0),(8,vI v7),(9,vP 71 0),(10,vP 76 0),vN,sN,qH,(18,vI u0),Ki u2 u0,(20,vI v3),aeD u0 u2 v3,BS u2,(116,vI w1),(117,vI u0),M6 u2 u0,(134,vI v3),(140,vB ul)],WJ p p1 p2 p3 w4 w8 x0 x1 x2 u4 u5 w2⟩ [_] {an:=[(2,cA q0 [])] } [] ⟨q0,trivial⟩ ?_
          refine bI h (fun hb4 h=> ?_) (fun hb4 h=> ?_)
          ·refine ct hb4 ?_
           refine bE h fun v6 hr_7 h=> ?_
           have q0:=rk [(0,71),(1,115),(2,70),(3,119)] (dU (ajB u0 u2 v3) (adi p u0) ((at' u2 u0.toNat).aV) 0 (⟨w8,w4⟩:aN) hr_7)
           refine rg tT ⟨akF s_ v7 u0 u2 w1 v3,[gm p p1 p2 p3,dL,UW v6,alJ v6,pE x0,qX x1,tO x2,uZ x2 x0 x1,Ib u4,HZ u5,(79,some (Zy 164 3 true false 2 1 aj.cell (aT .i64) (kP (fun a b=>(decide (a.e0=b.e0) && (decide (a.e1=b.e1) && true))) (⟨u0,v3⟩:aj) v6.1 w2))),(119,some (LB v6))]⟩ [_,LU [some .i64,some .i64] 2 1 w2.length (Ht aj.cell w2) (Hu (aT .i64) w2) [.int .i64 u0,.int .i64 v3] [cI v6.1] [] (kP (fun a b=>(decide (a.e0=b.e0) && (decide (a.e1=b.e1) && true))) (⟨u0,v3⟩:aj) v6.1 w2).length (Ht aj.cell (kP (fun a b=>(decide (a.e0=b.e0) && (decide (a.e1=b.e1) && true))) (⟨u0,v3⟩:aj) v6.1 w2)) (Hu (aT .i64) (kP (fun a b=>(decide (a.e0=b.e0) && (decide (a.e1=b.e1) && true))) (⟨u0,v3⟩:aj) v6.1 w2))] {an:=[(14,cA q0 [71,115,70]),(15, .map (kP (fun a b=>(decide (a.e0=b.e0) && (decide (a.e1=b.e1) && true))) (⟨u0,v3⟩:aj) v6.1 w2).length (Ht aj.cell (kP (fun a b=>(decide (a.e0=b.e0) && (decide (a.e1=b.e1) && true))) (⟨u0,v3⟩:aj) v6.1 w2)) (Hu (aT .i64) (kP (fun a b=>(decide (a.e0=b.e0) && (decide (a.e1=b.e1) && true))) (⟨u0,v3⟩:aj) v6.1 w2)) [])] } [] ⟨q0,Cr (fun _=>rfl) (fun _ _=>rfl) w2 (⟨u0,v3⟩:aj) v6.1 rfl rfl,trivial⟩ ?_
           refine ri tT ⟨aio s_ v7 u0 u2 w1 v3,[gm p p1 p2 p3,dL,UW v6,alJ v6,pE x0,qX x1,tO x2,uZ x2 x0 x1,Ib u4,HZ u5,(79,some (Zy 164 3 true false 2 1 aj.cell (aT .i64) (kP (fun a b=>(decide (a.e0=b.e0) && (decide (a.e1=b.e1) && true))) (⟨u0,v3⟩:aj) v6.1 w2))),(119,some (LB v6))]⟩ [] {} [] trivial (cO.fin (st':=⟨aio s_ v7 u0 u2 w1 v3,[gm p p1 p2 p3,dL,UW v6,amT v6,pE x0,qX x1,tO x2,uZ x2 x0 x1,Ib u4,HZ u5,(79,some (Zy 164 3 true false 2 1 aj.cell (aT .i64) (kP (fun a b=>(decide (a.e0=b.e0) && (decide (a.e1=b.e1) && true))) (⟨u0,v3⟩:aj) v6.1 w2))),adG v6]⟩) (cs:=[]) ⟨[],[(63,63),(65,65),(70,70),(71,71),(73,73),(74,74),(75,75),(76,76),(77,77),(78,78),(79,79),(119,115)]⟩ [2,3,4,8,9,10,11,12,13,18,19,115,116,117,133,134] (by kernel_rfl) trivial) ?_
           obtain rfl:=oi h
           exact lN
          ·refine cf hb4 ?_
           refine aP (rz tT ⟨aio s_ v7 u0 u2 w1 v3,WJ p p1 p2 p3 w4 w8 x0 x1 x2 u4 u5 w2⟩ {} [] ?_)
           obtain rfl:=oi h
           exact lN
         ·refine cf hb5 ?_
          refine aI (fz (ajY s_ v7 u2 w1 u0 p p1 p2 p3 w4 w8 x0 x1 x2 u4 u5 w2) []) ?_
          refine aX ?_
          obtain rfl:=oi h
          exact lB
        ·clear hy
         cases y2 with
         |brk z=>
          obtain⟨ub,x8,ug⟩:=z
          unfold dZ
          refine⟨_, .refl, ?_⟩
          refine ri tT ⟨ajT s_ v7 u0 u2 w1,WJ p p1 p2 p3 x8 ub x0 x1 x2 u4 u5 ug⟩ [] {} [] trivial (cO.fin (st':=⟨ajT s_ v7 u0 u2 w1,ab8 x2 x0 x1 ug p p1 p2 p3 x8 ub u4 u5⟩) (cs:=[]) ⟨[],[(63,63),(65,65),(70,70),(71,71),(115,72),(73,73),(74,74),(75,75),(76,76),(77,77),(78,78),(79,79)]⟩ [2,3,4,8,9,10,11,12,13,115,116,117] (by kernel_rfl) trivial) ?_
          obtain rfl:=oi h
          exact lN
         |ret v=>
          obtain rfl:=oi h
          unfold dZ
          intro e st hn ha hR
          cases e with
          |normal=>exact absurd rfl hn
          |exit id=>simp only [qW (b:=5) ha rfl,cond_false];exact hR
          |goto l=>exact hR
          |ret=>exact hR
          |panic c=>exact hR
          |outgrown=>exact hR
       ·refine cf hb6 ?_
        refine aI (fz (amu v7 p p1 p2 p3 x3 x7 x0 x1 x2 u4 u5 x9) []) ?_
        refine aX ?_
        obtain rfl:=oi h
        exact lB
      ·clear hy
       cases y3 with
       |brk z=>
        obtain⟨v1,ua,x5,x6,v2,u3⟩:=z
        unfold dZ
        refine⟨_, .refl, ?_⟩
        refine aQ (aI (.trans (fi ⟨aia ua,[gm p p1 p2 v1,dL,(71,some (.cells 161 [.own 72 false x5.length,.d (.sl (some true) 1 x6.length (fun i j=>evD (CS wI x6 i j)))])),Sy x5,pE x0,qX x1,tO v2,uZ v2 x0 x1,Ib u4,HZ u5,Kg u3]⟩ [x6.length=x6.length] [70] ⟨rfl,trivial⟩) (cO.le (st':=⟨aia ua,[gm p p1 p2 v1,dL,amc x5 x6,Sy x5,pE x0,qX x1,tO v2,uZ v2 x0 x1,Ib u4,HZ u5,Kg u3]⟩) ⟨⟨tR,tR,tR,tR,tR,tR,tR,tR,trivial⟩,hN 2 ⟨rfl,cu ⟨eZ.refl _,eZ.d (iM.sl (.inr rfl) (fun i _ j hj=>match j,hj with|0,_=> .refl _)),trivial⟩,.refl _⟩⟩)) ?_)
        refine bE h fun u1 hr_8 h=> ?_
        refine rg tT ⟨[(2,vP 63 0),(4,vP 65 0),(9,vP 71 0),(10,vP 76 0),vN,sN,qH],[gm p p1 p2 v1,dL,BN u1,BO u1,pE x0,qX x1,tO v2,uZ v2 x0 x1,Ib u4,HZ u5,Kg u3]⟩ [Fn Try.prog 80 [.one (.ptr 71 0),sI ua] [amc x5 x6,Sy x5] (.jl []) (akp u1)] {an:=[(2, .call [71,72] (.jl []) (akp u1))] } [] ⟨Fn.leH (args:=[.one (.ptr 71 0),sI ua]) (hin:=[(71,some (.cells 161 [.own 72 false x5.length,.d (VY x6)])),Sy x5]) (rK [(0,71),(1,72)] (rQ ua (⟨x5,x6⟩:aN) hr_8)) ⟨fG.refl _,fG.refl _,trivial⟩ ⟨rfl,cu ⟨eZ.refl _,eZ.d iM.qB,trivial⟩,.refl _⟩,trivial⟩ ?_
        refine aQ (bE h fun y4 hy h=> ?_)
        refine pV (Ig p p1 p2 x1 u5 v1 v2 u3 u1) (K:=3) (V:=3) (s0:=(x0)) ⟨3,3,false,false,1,1,u4.length,Ht (aT .i64) u4,Hu (aT .i64) u4,[]⟩ 77 120 (fun i=>(sI (at' (u4.map Prod.fst) i))) (fun i=>(sI (at' (u4.map Prod.snd) i))) hy [3,4] (by kernel_rfl) (by kernel_rfl) (by kernel_rfl) (fun _ _=> ⟨rfl,rfl⟩) (fun _ _=> ⟨vw _ _,vw _ _⟩) (fun _=>(cO.fin (st':=(akC u1 p p1 p2 v1 x0 x1 v2 u5 u3)) (cs:=[]) ⟨[],[(63,63),(65,65),(71,71),(72,72),(73,73),(74,74),(75,75),(76,76),(78,78),(79,79),(120,120)]⟩ [2,4,9,10,12,13,162] (by kernel_rfl) trivial)) (fun s=>by obtain⟨w5,rfl⟩: ∃q,q=s:=⟨_,rfl⟩;kernel_rfl) (fun B s i s' hi h=> ?_) ?_
        ·clear hy
         unfold ny at h
         obtain⟨w5,rfl⟩: ∃q,q=s:=⟨_,rfl⟩
         refine rwp tT (⟨[(2,vP 63 0),(4,vP 65 0),(9,vP 71 0),(10,vP 76 0),sN,qH,(22,vI (at' (u4.map Prod.fst) i)),(23,vI (at' (u4.map Prod.snd) i)),(162,vP 120 0)],alj u1 p p1 p2 v1 w5 x1 v2 u5 u3⟩) {fin:=⟨[],[(63,63),(65,65),(71,71),(72,72),(73,73),(74,74),(75,75),(76,76),(78,78),(79,79),(120,120)]⟩,ts:=[2,4,9,10,12,13,22,23,162] } (cs:=[]) (by kernel_rfl) trivial .refl ?_
         refine aO h fun⟨a1,a2⟩ h=> ?_
         refine di tT mX ⟨ah1,[gm p p1 p2 v1,dL,BN u1,BO u1,(73,some (.arr 3 1 w5.length (Zo u4 u1 i w5))),qX x1,tO v2,uZ v2 w5 x1,HZ u5,Kg u3,(120,none)]⟩ [_,_,_,_,aZ w5.length 1 (ano u4 u1 i w5) (Zo u4 u1 i w5)] {an:=[(13, .arr 0 (Zo u4 u1 i w5))] } [] ⟨a1,tL a1,a2,tL a2,dA _ _ _ _ _ _ _ _ rfl (fun j hj=>(match j,hj with|0,_=>rfl)),trivial⟩ (cO.le (st':=⟨ah1,[gm p p1 p2 v1,dL,BN u1,BO u1,(73,some (akV u4 u1 i w5)),qX x1,tO v2,(76,some (.cells 77 [.own 73 true (aj0 u4 u1 i w5),.own 74 true x1.length,.own 75 true v2.length])),HZ u5,Kg u3,(120,none)]⟩) ⟨⟨tR,tR,tR,tR,tR,tR,tR,trivial⟩,hN 4 ⟨rfl,oW,hN 2 ⟨rfl,cu ⟨cW,eZ.refl _,eZ.refl _,trivial⟩,.refl _⟩⟩⟩) ?_
         obtain rfl:=oi h
         exact⟨.inl rfl,by kernel_rfl⟩
        ·clear hy
         obtain⟨u6,rfl⟩: ∃q,q=y4:=⟨_,rfl⟩
         refine aI (fz ⟨[(2,vP 63 0),(4,vP 65 0),(9,vP 71 0),(10,vP 76 0),sN,qH],[gm p p1 p2 v1,dL,BN u1,BO u1,pE u6,qX x1,tO v2,uZ v2 u6 x1,HZ u5,Kg u3]⟩ []) ?_
         refine aQ (bE h fun y5 hy h=> ?_)
         refine pV (IB p p1 p2 v1 v2 u3 u1 u6) (K:=3) (V:=3) (s0:=(x1)) ⟨3,3,false,false,1,1,u5.length,Ht (aT .i64) u5,Hu (aT .i64) u5,[]⟩ 78 121 (fun i1=>(sI (at' (u5.map Prod.fst) i1))) (fun i1=>(sI (at' (u5.map Prod.snd) i1))) hy [3,4] (by kernel_rfl) (by kernel_rfl) (by kernel_rfl) (fun _ _=> ⟨rfl,rfl⟩) (fun _ _=> ⟨vw _ _,vw _ _⟩) (fun _=>(cO.fin (st':=(ai6 p p1 p2 v1 u1 u6 x1 v2 u3)) (cs:=[]) ⟨[],[(63,63),(65,65),(71,71),(72,72),(73,73),(74,74),(75,75),(76,76),(79,79),(121,121)]⟩ [2,4,9,10,13,182] (by kernel_rfl) trivial)) (fun s=>by obtain⟨w6,rfl⟩: ∃q,q=s:=⟨_,rfl⟩;kernel_rfl) (fun B s i1 s' hi h=> ?_) ?_
         ·clear hy
          unfold nD at h
          obtain⟨w6,rfl⟩: ∃q,q=s:=⟨_,rfl⟩
          refine rwp tT (⟨[(2,vP 63 0),(4,vP 65 0),(9,vP 71 0),(10,vP 76 0),qH,(24,vI (at' (u5.map Prod.fst) i1)),(25,vI (at' (u5.map Prod.snd) i1)),(182,vP 121 0)],aiT p p1 p2 v1 u1 u6 w6 v2 u3⟩) {fin:=⟨[],[(63,63),(65,65),(71,71),(72,72),(73,73),(74,74),(75,75),(76,76),(79,79),(121,121)]⟩,ts:=[2,4,9,10,13,24,25,182] } (cs:=[]) (by kernel_rfl) trivial .refl ?_
          refine aO h fun⟨a1,a2,a3⟩ h=> ?_
          refine di tT mX ⟨af6,[gm p p1 p2 v1,dL,BN u1,BO u1,pE u6,(74,some (.arr 3 1 w6.length (Z4 p2 u5 u1 i1 w6))),tO v2,uZ v2 u6 w6,Kg u3,(121,none)]⟩ [_,_,_,_,_,aZ w6.length 1 (aj1 p2 u5 u1 i1 w6) (Z4 p2 u5 u1 i1 w6)] {an:=[(19, .arr 0 (Z4 p2 u5 u1 i1 w6))] } [] ⟨a1,a2,tL a2,a3,tL a3,dA _ _ _ _ _ _ _ _ rfl (fun j hj=>(match j,hj with|0,_=>rfl)),trivial⟩ (cO.le (st':=⟨af6,[gm p p1 p2 v1,dL,BN u1,BO u1,pE u6,(74,some (ai8 p2 u5 u1 i1 w6)),tO v2,(76,some (.cells 77 [.own 73 true u6.length,.own 74 true (alI p2 u5 u1 i1 w6),.own 75 true v2.length])),Kg u3,(121,none)]⟩) ⟨⟨tR,tR,tR,tR,tR,tR,trivial⟩,hN 5 ⟨rfl,oW,⟨rfl, .refl _,⟨rfl,cu ⟨eZ.refl _,cW,eZ.refl _,trivial⟩,⟨rfl, .refl _,⟨rfl, .refl _,trivial⟩⟩⟩⟩⟩⟩) ?_
          obtain rfl:=oi h
          exact⟨.inl rfl,by kernel_rfl⟩
         ·clear hy
          obtain⟨u8,rfl⟩: ∃q,q=y5:=⟨_,rfl⟩
          refine aI (fz ⟨[(2,vP 63 0),(4,vP 65 0),(9,vP 71 0),(10,vP 76 0),qH],[gm p p1 p2 v1,dL,BN u1,BO u1,pE u6,qX u8,tO v2,uZ v2 u6 u8,Kg u3]⟩ []) ?_
          refine aQ (bE h fun y6 hy h=> ?_)
          refine pV (Ii p p1 p2 v1 u1 u6 u8) (K:=164) (V:=3) (s0:=(v2)) ⟨164,3,true,false,2,1,u3.length,Ht aj.cell u3,Hu (aT .i64) u3,[]⟩ 79 122 (fun i2=>(.agg (ad4 u3 i2))) (fun i2=>(sI (at' (u3.map Prod.snd) i2))) hy [3,4,5] (by kernel_rfl) (by kernel_rfl) (by kernel_rfl) (fun _ _=> ⟨rfl,rfl⟩) (fun _ _=> ⟨XE rfl,vw _ _⟩) (fun _=>(cO.fin (st':=(amg p p1 p2 v1 u1 u6 u8 v2)) (cs:=[]) ⟨[],[(63,63),(65,65),(71,71),(72,72),(73,73),(74,74),(75,75),(76,76),(122,122)]⟩ [2,4,9,10,208] (by kernel_rfl) trivial)) (fun s=>by obtain⟨u9,rfl⟩: ∃q,q=s:=⟨_,rfl⟩;kernel_rfl) (fun B s i2 s' hi h=> ?_) ?_
          ·clear hy
           unfold nA at h
           obtain⟨u9,rfl⟩: ∃q,q=s:=⟨_,rfl⟩
           refine rwp tT (⟨afT u3 i2,[gm p p1 p2 v1,dL,BN u1,BO u1,pE u6,qX u8,tO u9,uZ u9 u6 u8,(122,none),(125,some (.cells 164 (ad4 u3 i2)))]⟩) {fr:=frf [(3,125)],fin:=⟨[],[(63,63),(65,65),(71,71),(72,72),(73,73),(74,74),(75,75),(76,76),(122,122),(125,125)]⟩,ts:=[2,4,9,10,26,27,208] } (cs:=[]) (by kernel_rfl) trivial .refl ?_
           refine bI h (fun hb7 h=> ?_) (fun _ h=> ?_)
           ·skip
            refine aI (cO.le (st':=⟨afT u3 i2,[gm p p1 p2 v1,dL,BN u1,BO u1,pE u6,qX u8,tO u9,uZ u9 u6 u8,(122,none),(125,some (.cells 164 [cI ((at' (u3.map Prod.fst) i2).e0),cI 0]))]⟩) ⟨⟨tR,tR,tR,tR,tR,tR,tR,trivial⟩,hN 9 ⟨rfl,cu ⟨eZ.refl _,eZ.of (congrArg (fun n=>CV.d (.int .i64 n)) (of_decide_eq_true hb7)),trivial⟩,trivial⟩⟩) ?_
            refine aO h fun⟨a1,a2⟩ h=> ?_
            refine di tT mX ⟨aaC,[gm p p1 p2 v1,dL,BN u1,BO u1,pE u6,qX u8,(75,some (.arr 164 2 u9.length (ZV u1 u3 i2 u9))),uZ u9 u6 u8,(122,none)]⟩ [(0:Int)≤0∧(0:Int)<(2:Nat),(0:Int)≤1∧(1:Int)<(2:Nat),_,_,_,(0:Int)≤0∧(0:Int)<(2:Nat),_,aZ u9.length 2 (aiR u1 u3 i2 u9) (ZV u1 u3 i2 u9)] {an:=[(17, .arr 0 (ZV u1 u3 i2 u9))] } [] ⟨(by decide),(by decide),a1,tL a1,a2,(by decide),tL a2,dA _ _ _ _ _ _ _ _ rfl (fun j hj=>(match j,hj with|0,_=>rfl|1,_=>rfl)),trivial⟩ (cO.le (st':=⟨aaC,[gm p p1 p2 v1,dL,BN u1,BO u1,pE u6,qX u8,(75,some (akx u1 u3 i2 u9)),(76,some (.cells 77 [.own 73 true u6.length,.own 74 true u8.length,.own 75 true (anu u1 u3 i2 u9)])),(122,none)]⟩) ⟨⟨tR,tR,tR,tR,tR,trivial⟩,hN 6 ⟨rfl,oW,⟨rfl,cu ⟨eZ.refl _,eZ.refl _,cW,trivial⟩,.refl _⟩⟩⟩) ?_
            obtain rfl:=oi h
            exact⟨.inl rfl,by kernel_rfl⟩
           ·skip
            refine aO h fun a1 h=> ?_
            refine aI (cO.le (st':=⟨afT u3 i2,[gm p p1 p2 v1,dL,BN u1,BO u1,pE u6,qX u8,tO u9,uZ u9 u6 u8,(122,none),(125,some (.cells 164 [cI ((at' (u3.map Prod.fst) i2).e0),cI 1]))]⟩) ⟨⟨tR,tR,tR,tR,tR,tR,tR,trivial⟩,hN 9 ⟨rfl,cu ⟨eZ.refl _,eZ.of (congrArg (fun n=>CV.d (.int .i64 n)) a1),trivial⟩,trivial⟩⟩) ?_
            refine aO h fun⟨a1,a2⟩ h=> ?_
            refine di tT mX ⟨aaC,[gm p p1 p2 v1,dL,BN u1,BO u1,pE u6,qX u8,(75,some (.arr 164 2 u9.length (YT u1 u3 i2 u9))),uZ u9 u6 u8,(122,none)]⟩ [(0:Int)≤0∧(0:Int)<(2:Nat),(0:Int)≤1∧(1:Int)<(2:Nat),_,_,_,(0:Int)≤1∧(1:Int)<(2:Nat),_,aZ u9.length 2 (aj6 u1 u3 i2 u9) (YT u1 u3 i2 u9)] {an:=[(17, .arr 0 (YT u1 u3 i2 u9))] } [] ⟨(by decide),(by decide),a1,tL a1,a2,(by decide),tL a2,dA _ _ _ _ _ _ _ _ rfl (fun j hj=>(match j,hj with|0,_=>rfl|1,_=>rfl)),trivial⟩ (cO.le (st':=⟨aaC,[gm p p1 p2 v1,dL,BN u1,BO u1,pE u6,qX u8,(75,some (akj u1 u3 i2 u9)),(76,some (.cells 77 [.own 73 true u6.length,.own 74 true u8.length,.own 75 true (aku u1 u3 i2 u9)])),(122,none)]⟩) ⟨⟨tR,tR,tR,tR,tR,trivial⟩,hN 6 ⟨rfl,oW,⟨rfl,cu ⟨eZ.refl _,eZ.refl _,cW,trivial⟩,.refl _⟩⟩⟩) ?_
            obtain rfl:=oi h
            exact⟨.inl rfl,by kernel_rfl⟩
          ·clear hy
           obtain⟨v8,rfl⟩: ∃q,q=y6:=⟨_,rfl⟩
           refine aI (fz ⟨[(2,vP 63 0),(4,vP 65 0),(9,vP 71 0),(10,vP 76 0)],[gm p p1 p2 v1,dL,BN u1,BO u1,pE u6,qX u8,tO v8,uZ v8 u6 u8]⟩ []) ?_
           refine aQ (aO h fun⟨a1,a2,a3⟩ h=> ?_)
           refine rg tT ⟨[(2,vP 63 0),(4,vP 65 0),(9,vP 71 0),(10,vP 76 0),(28,vP 127 0)],[gm p p1 p2 v1,dL,BN u1,BO u1,pE u6,qX u8,tO v8,uZ v8 u6 u8,abq p,abt p]⟩ [_,(p.ax:Int)=p.ax,_,_,(K9 p).length=p.ax.toNat,aZ p.ax.toNat 1 (fun _ j=>[.bool false].getD j .nilp) (Tq p)] {an:=[(2, .arr (K9 p).length (Tq p))],fr:=[(2,126),(3,127)] } [] ⟨a1,rfl,a2,a3,List.length_replicate,fe _ _ _ _ _ (fun j hj=>(match j,hj with|0,_=>rfl)),trivial⟩ ?_
           refine aQ (aQ (bE h fun um hr_9 h=> ?_))
           have q0:=rk [(0,71),(1,72),(2,128)] (ko u1 hr_9)
           refine ri tT ⟨ajR,[gm p p1 p2 v1,dL,(71,some (ald u1)),pE u6,qX u8,tO v8,uZ v8 u6 u8,abq p,abt p,(128,some (.cells 157 [.ptr 71 0]))]⟩ [_,u1.bP.length=u1.bP.length] {an:=[(1,cA q0 [71,72])] } [72] ⟨q0,rfl,trivial⟩ (.trans (fz ⟨ajR,[gm p p1 p2 v1,dL,pE u6,qX u8,tO v8,uZ v8 u6 u8,abq p,abt p,(128,some (ajL u1))]⟩ [71]) (fz ⟨aj5 u1,[gm p p1 p2 v1,dL,pE u6,qX u8,tO v8,uZ v8 u6 u8,abq p,abt p]⟩ [128])) ?_
           refine aB (bE h fun w9 hr_10 h=> ?_)
           refine mg 129 [(2,vP 63 0),(28,vP 127 0)] [] [129,63,127,126] (.jl []) [(129,some (.loop fF 0 [(2,vP 63 0),(28,vP 127 0)])),gm p p1 p2 v1,(127,some (.cells 27 [.own 126 true w9.length])),(126,some (bW 4 1 aF w9))] (ahZ u1) 121 [] (amr u1) [(129,some (.loop fF 0 [(2,vP 63 0),(28,vP 127 0)])),gm p p1 p2 v1,abt p,abq p] [.one (.yl 129),sD (aea u1)] fF 0 [(2,vP 63 0),(28,vP 127 0)] (by kernel_rfl) (by kernel_rfl) (by kernel_rfl) (by kernel_rfl) (by kernel_rfl) (by kernel_rfl) (by kernel_rfl) (rK [(0,129),(1,63),(2,127),(3,126)] (lg u1.bP u1.from_ (⟨p.ax,p1,p2,v1⟩:au) (K9 p) hr_10)) (by kernel_rfl) rfl (IG.zero rfl) (cO.fin (st':=⟨aj5 u1,[gm p p1 p2 v1,dL,pE u6,qX u8,tO v8,uZ v8 u6 u8,(126,some (bW 4 1 aF w9)),(127,some (.cells 27 [.own 126 true w9.length]))]⟩) (cs:=[]) ⟨[],[(63,63),(65,65),(73,73),(74,74),(75,75),(76,76),(126,126),(127,127)]⟩ [2,4,10,28,235] (by kernel_rfl) trivial) ?_
           refine sd tT mX ⟨[(4,vP 65 0),(5,vO 126 true w9.length),(6,vI 0)],[(65,some (.cells 77 [.own 73 true u6.length,.own 74 true u8.length,.own 75 true v8.length])),pE u6,qX u8,tO v8,(126,some (bW 4 1 aF w9))]⟩ [] {} [] trivial ?_
           refine aI (.trans (cO.fin (st':=⟨[(4,vP 4 0),(5,vO 3 true w9.length),(6,vI 0)],[Lu u6,(1,some (Gy u8)),(2,some (bW 164 2 aj.cell v8)),yL w9,(4,some (.cells 77 [.own 0 true u6.length,.own 1 true u8.length,.own 2 true v8.length]))]⟩) (cs:=[]) ⟨[],[(73,0),(74,1),(75,2),(126,3),(65,4)]⟩ [4,5,6] (by kernel_rfl) trivial) (cO.le (st':=⟨[(4,vP 4 0),(5,vO 3 false w9.length),(6,vI 0)],[Lu u6,(1,some (Gy u8)),(2,some (bW 164 2 aj.cell v8)),yL w9,(4,some (.cells 77 [.own 0 false u6.length,.own 1 false u8.length,.own 2 false v8.length]))]⟩) ⟨⟨tR,⟨_,rfl,eB.v (fG.one (cN))⟩,tR,trivial⟩,hN 4 ⟨rfl,cu ⟨cN,cN,cN,trivial⟩,trivial⟩⟩)) ?_
           refine aR ?_
           obtain rfl:=oi h
           exact rh [.agg [.own 0 false u6.length,.own 1 false u8.length,.own 2 false v8.length],.one (.own 3 false w9.length),sI 0] (.refl _) (hN 4 ⟨rfl,trivial,trivial⟩)
       |ret v=>
        obtain rfl:=oi h
        unfold dZ
        intro e st hn ha hR
        cases e with
        |normal=>exact absurd rfl hn
        |exit id=>exact hR
        |goto l=>exact hR
        |ret=>exact hR
        |panic c=>exact hR
        |outgrown=>exact hR
     |ret v=>
      obtain rfl:=oi h
      unfold dZ
      intro e st hn ha hR
      cases e with
      |normal=>exact absurd rfl hn
      |exit id=>exact hR
      |goto l=>exact hR
      |ret=>exact hR
      |panic c=>exact hR
      |outgrown=>exact hR
   |ret v=>
    obtain rfl:=oi h
    unfold dZ
    intro e st hn ha hR
    cases e with
    |normal=>exact absurd rfl hn
    |exit id=>exact hR
    |goto l=>exact hR
    |ret=>exact hR
    |panic c=>exact hR
    |outgrown=>exact hR
noncomputable def ji:qN:=⟨[25,26],MV ([1,1,1,1,0,1,0]++[0]) (qg Try.f33),MV ([1,1,1,1,0,1,0]++[1]) (qg Try.f33),35,[]⟩
abbrev Gl:Nat × Option Ob:=(0,some (.loop ji 0 [(9,vP 1 0)]))
def GL  :(List aM)→Exit→St→Prop:=
  fun r=>qb 0 ji (vB true) [Gl,(1,some (.cells 80 [.own 3 false r.length])),(2,none),(3,some (bW 117 2 aM.cell r))]
section
variable (u0:List aM) (u1:Int) (u2:Int)
abbrev Gn:Ob:=(bW 117 2 aM.cell u0)
abbrev ZF:List (Nat × Option Ob):=[Gl,(1,some (.cells 80 [.own 2 false u0.length])),(2,some (Gn u0))]
abbrev agh:List (Nat × TV):=[(9,vP 1 0),(10,vD (ow [.int .i64 u1,.int .i64 u2] 0))]
abbrev acz:Nat × Option Ob:=(0,some (.loop ji 1 [(9,vP 1 0)]))
abbrev alr:List (Nat × Option Ob):=[acz,(1,some (.cells 80 [.own 2 false u0.length])),(2,some (Gn u0))]
abbrev akY:List (Nat × TV):=[(9,vP 1 0),(10,vD (ow [.int .i64 u1,.int .i64 u2] 0)),(29,vB (!decide (u1=0)))]
end
theorem oQ (u1:Int) (u2:Int) (u3:Int) (u0:List aM) {r:List aM} (h:fV u1 u2 u3 u0=some r):Yl Try.prog 0 [.agg [cI u1,cI u2],sI u3] (ZF u0) (vB true) [Gl,(1,some (.cells 80 [.own 3 false r.length])),(2,none),(3,some (bW 117 2 aM.cell r))]:=by
 refine Jh (r:=ji) (sl:=[(9,vP 1 0)]) (sl1:=(agh u1 u2)) (h1:=(ZF u0)) (sl2:=[(9,vP 1 0)]) (by kernel_rfl) rfl rfl (by kernel_rfl) (fun rd B=> ?_) (by kernel_rfl) (fun rd B=> ?_)
 ·refine vR (c:=MV ([1,1,1,1,0,1,0]++[0]) (qg Try.f33)) rfl ?_
  refine rA (st:=⟨[(25,.v (.agg [cI u1,cI u2])),(26,vI u3),(9,vP 1 0)],ZF u0⟩) (by kernel_rfl) ?_
  refine rz tT ⟨agh u1 u2,ZF u0⟩ {fr:=[(0,6)] } [6] ?_
  exact⟨rfl,rfl⟩
 ·refine vR (c:=MV ([1,1,1,1,0,1,0]++[1]) (qg Try.f33)) rfl ?_
  refine rA (st:=⟨agh u1 u2,alr u0⟩) (by kernel_rfl) ?_
  show bR _ _ _ _ _ _ (GL r) _
  unfold fV at h
  refine aB (sz tT ⟨akY u1 u2,alr u0⟩ {} [] ?_)
  refine bI h (fun hb h=> ?_) (fun hb h=> ?_)
  ·refine ct hb ?_
   refine aO h fun⟨a1,a2⟩ h=> ?_
   refine ri tT ⟨[],[acz,(1,some (.cells 80 [.own 8 false ((u0++[(⟨u1,u2⟩:aM)]).length)])),(2,none),(8,some (bW 117 2 aM.cell (u0++[(⟨u1,u2⟩:aM)])))]⟩ [[(⟨u1,u2⟩:aM)].length=1,aZ 1 2 (kg 2 [.int .i64 u1,.int .i64 u2]) (aS aM.cell [(⟨u1,u2⟩:aM)]),u0.length=u0.length,_,_,(u0++[(⟨u1,u2⟩:aM)]).length=u0.length+[(⟨u1,u2⟩:aM)].length,aZ (u0.length+[(⟨u1,u2⟩:aM)].length) 2 (Ff (aS aM.cell u0) u0.length (aS aM.cell [(⟨u1,u2⟩:aM)])) (aS aM.cell (u0++[(⟨u1,u2⟩:aM)]))] {an:=[(2, .arr [(⟨u1,u2⟩:aM)].length (aS aM.cell [(⟨u1,u2⟩:aM)])),(3, .arr (u0++[(⟨u1,u2⟩:aM)]).length (aS aM.cell (u0++[(⟨u1,u2⟩:aM)])))],fr:=[(2,7),(3,8)] } [] ⟨rfl,(by intro i hi j hj;match i,j,hi,hj with|0,0,_,_=>rfl|0,1,_,_=>rfl),rfl,a1,a2,List.length_append,kz _ _ _ _,trivial⟩ (cO.fin (st':=⟨[],[acz,(1,some (.cells 80 [.own 3 false ((u0++[(⟨u1,u2⟩:aM)]).length)])),(2,none),(3,some (bW 117 2 aM.cell (u0++[(⟨u1,u2⟩:aM)])))]⟩) (cs:=[]) ⟨[],[(0,0),(1,1),(2,2),(8,3)]⟩ [] (by kernel_rfl) trivial) ?_
   obtain rfl:=oi h
   exact qb.on (sl:=[(9,vP 1 0)]) (by kernel_rfl) (Cw (by kernel_rfl)) (eB.refl _)
  ·refine cf hb ?_
   refine aI (.trans (cO.aaI (E0:=80) (cs:=[.own 2 false u0.length]) (nn:=false) (len:=u0.length) (E:=117) (esz:=2) (n:=u0.length) (el:=aS aM.cell u0) (p:=1) (q:=0) (b:=2) (b':=9) (by kernel_rfl) (by kernel_rfl) (by kernel_rfl) (by kernel_rfl)) (.trans (fz ⟨akY u1 u2,[acz,(1,some (.cells 80 [.own 9 false u0.length])),(2,none),(9,some (Gn u0))]⟩ []) (cO.fin (st':=⟨[],[acz,(1,some (.cells 80 [.own 3 false u0.length])),(2,none),(3,some (Gn u0))]⟩) (cs:=[]) ⟨[],[(0,0),(1,1),(2,2),(9,3)]⟩ [] (by kernel_rfl) trivial))) ?_
   refine aP ?_
   obtain rfl:=oi h
   exact qb.on (sl:=[(9,vP 1 0)]) (by kernel_rfl) (Cw (by kernel_rfl)) (eB.refl _)
def Fz  :Bool→Exit→St→Prop:=
  fun r=>bL TT [.tmp 3] (vB r) []
theorem D9 (b:Int) (x1:List Bool) {r:Bool} (h:mO b x1=some r):Fn Try.prog 125 [sI b,sD (VE x1)] [] (vB r) []:=by
 refine fN tT Try.func125 rfl rfl fun B=> ?_
 show bR _ _ _ _ _ _ (Fz r) _
 unfold mO at h
 refine sz tT ⟨[(0,vI b),(1,vD (VE x1))],[]⟩ {} [] ?_
 refine aQ (aO h fun a1 h=> ?_)
 refine rg tT ⟨[(3,vB (bif (decide (0≤b))then(at' x1 b.toNat)else false))],[]⟩ (eqs (decide (0≤b)) 3 ((gP (gY [(2,decide (0≤b))]) [(2,true)]→All [(0:Int)≤b∧b<(x1.length:Int)])::(eqs (decide (0≤b)) 2 []))) {yb:=[(2,decide (0≤b))] } [] (ae ⟨(fun hg=> ⟨a1 (bC hg),trivial⟩),ae trivial⟩) ?_
 refine aR ?_
 obtain rfl:=oi h
 exact rl [sB (bif (decide (0≤b))then(at' x1 b.toNat)else false)]
def jM  :Int→Exit→St→Prop:=
  fun r=>bL TT [.tmp 4] (vI r) []
section
variable (f_:List Bool)
abbrev YC:=(qC [VE f_])
abbrev Xn:Nat × TV:=(1,vD (.fn 125 1 (YC f_)))
end
def oz (s_:List Int) (f_:List Bool):Int→St:=
  fun t8=> ⟨[mr s_,Xn f_,rG s_,(8,vI t8)],[]⟩
def oo  :Unit→St:=
  fun _=> ⟨[],[]⟩
def xI (s_:List Int) (f_:List Bool):(aY Int (Ex Unit Int))→Exit→St→Prop:=
  LQ 0 [] (oz s_ f_) oo jM
section
variable (s_:List Int) (f_:List Bool)
abbrev alU:St:=⟨[mr s_,Xn f_],[]⟩
end
theorem xN (s_:List Int) (f_:List Bool) {r:Int} (h:iQ s_ f_=some r):Fn Try.prog 113 [sD (Dk s_),sD (.fn 125 1 (YC f_))] [] (vI r) []:=by
 refine fN tT Try.func113 rfl rfl fun B=> ?_
 show bR _ _ _ _ _ _ (jM r) _
 unfold iQ at h
 refine sz tT (alU s_ f_) {} [] ?_
 refine aQ (sz tT ⟨[mr s_,Xn f_,rG s_,(8,vI 0)],[]⟩ {} [] ?_)
 refine bE h fun y hy h=> ?_
 refine aL [] (oz s_ f_) oo jM hy (fun s f h=> ?_) ?_
 ·clear hy
  show bR _ _ _ _ _ _ ((xI s_ f_) f) _
  unfold gU at h
  obtain⟨t8,rfl⟩: ∃q,q=s:=⟨_,rfl⟩
  refine sz tT ⟨[mr s_,Xn f_,rG s_,(8,vI t8),aay t8 s_],[]⟩ {} [] ?_
  refine aQ ?_
  refine bI h (fun hb1 h=> ?_) (fun hb1 h=> ?_)
  ·refine ct hb1 ?_
   refine aP (aQ (aB (sz tT ⟨[mr s_,Xn f_,(5,vI t8),rG s_,(8,vI t8)],[]⟩ {} [] ?_)))
   refine aQ (bE h fun r_ hr_ h=> ?_)
   refine aO h fun a1 h=> ?_
   have q1:=D9 (at' s_ t8.toNat) f_ hr_
   refine rg tT ⟨[mr s_,Xn f_,(5,vI t8),rG s_,(8,vI t8),(16,vB r_)],[]⟩ [_,_] {an:=[(5,cA q1 [])] } [] ⟨a1,q1,trivial⟩ ?_
   refine bI h (fun hb h=> ?_) (fun hb h=> ?_)
   ·refine ct hb ?_
    refine sz tT ⟨[(4,vI t8)],[]⟩ {} [] ?_
    refine aR ?_
    obtain rfl:=oi h
    exact lR dw (dm 0) dz (bL.mk (.inr rfl) (p:=[]) (l:=[sI t8]) (by kernel_rfl) trivial (eB.refl _) trivial)
   ·refine cf hb ?_
    refine aP (rz tT ⟨[mr s_,Xn f_,rG s_,Hz t8],[]⟩ {} [] ?_)
    obtain rfl:=oi h
    exact lN
  ·refine cf hb1 ?_
   refine aI (fz ⟨[],[]⟩ []) ?_
   refine aX ?_
   obtain rfl:=oi h
   exact lB
 ·clear hy
  cases y with
  |brk z=>
   unfold dZ
   refine⟨_, .refl, ?_⟩
   refine sz tT ⟨[(4,vI (-1))],[]⟩ {} [] ?_
   refine aR ?_
   obtain rfl:=oi h
   exact rl [sI (-1)]
  |ret v=>
   obtain rfl:=oi h
   unfold dZ
   intro e st hn ha hR
   cases e with
   |normal=>exact absurd rfl hn
   |exit id=>exact hR
   |goto l=>exact hR
   |ret=>exact hR
   |panic c=>exact hR
   |outgrown=>exact hR
def wz  :Bool→Exit→St→Prop:=
  fun r=>bL TT [.tmp 4] (vB r) []
theorem mE (s_:List Int) (f_:List Bool) {r:Bool} (h:dX s_ f_=some r):Fn Try.prog 67 [sD (Dk s_),sD (.fn 125 1 (YC f_))] [] (vB r) []:=by
 refine fN tT Try.func67 rfl rfl fun B=> ?_
 show bR _ _ _ _ _ _ (wz r) _
 unfold dX at h
 refine sz tT (alU s_ f_) {} [] ?_
 refine aQ (bE h fun r_ hr_ h=> ?_)
 have q0:=xN s_ f_ hr_
 refine rg tT (aah r_) [_] {an:=[(2,cA q0 [])] } [] ⟨q0,trivial⟩ ?_
 refine aR ?_
 obtain rfl:=oi h
 exact rl [sB (decide (0≤r_))]
def gJ  :(List aM)→Exit→St→Prop:=
  fun r=>bL TT [] (.jl []) [Gl,(1,some (.cells 80 [.own 3 false r.length])),(2,none),(3,some (bW 117 2 aM.cell r))]
section
variable (x2:List Bool) (u4:List Bool) (u5:List Bool) (u6:List Bool) (u7:List Bool) (u8:List Bool) (u9:List Bool) (x3:List Bool) (u0:List ay) (x1:Int) (u2:List aH) (u3:List aK) (v0:Int) (u1:List aM)
abbrev amS:DV:=(ow [bJ none 1 aF x2,bJ none 1 aF u4,bJ none 1 aF u5,bJ none 1 aF u6,bJ none 1 aF u7,bJ none 1 aF u8,bJ none 1 aF u9] 0)
abbrev I6:Nat × TV:=(2,vD (amS x2 u4 u5 u6 u7 u8 u9))
abbrev xO:Nat × TV:=(3,vD (VE x3))
abbrev Wz:Nat × TV:=(13,vD (Z7 u0))
abbrev WH:Nat × TV:=(14,vI (u0.length:Int))
abbrev anp:List (Nat × TV):=[fO,Rc u0 u2 u3 x1,I6 x2 u4 u5 u6 u7 u8 u9,xO x3,Wz u0,WH u0,(15,vI v0)]
abbrev vV:List (Nat × Option Ob):=[Gl,(1,some (.cells 80 [.own 37 false u1.length])),(2,none),(37,some (Gn u1))]
end
def wU (x1:Int) (u0:List ay) (u2:List aH) (u3:List aK) (x2:List Bool) (u4:List Bool) (u5:List Bool) (u6:List Bool) (u7:List Bool) (u8:List Bool) (u9:List Bool) (x3:List Bool):((List aM) × Int)→St:=
  fun zz=>match zz with|(u1,v0)=> ⟨anp x2 u4 u5 u6 u7 u8 u9 x3 u0 x1 u2 u3 v0,vV u1⟩
section
variable (x1:Int) (u1:List ay) (u2:List aH) (u3:List aK) (x2:List Bool) (u4:List Bool) (u5:List Bool) (u6:List Bool) (u7:List Bool) (u8:List Bool) (u9:List Bool) (x3:List Bool) (u0:List aM)
abbrev aiM:List (Nat × TV):=[fO,Rc u1 u2 u3 x1,I6 x2 u4 u5 u6 u7 u8 u9,xO x3]
abbrev ams:St:=⟨aiM x1 u1 u2 u3 x2 u4 u5 u6 u7 u8 u9 x3,vV u0⟩
end
def wO (x1:Int) (u1:List ay) (u2:List aH) (u3:List aK) (x2:List Bool) (u4:List Bool) (u5:List Bool) (u6:List Bool) (u7:List Bool) (u8:List Bool) (u9:List Bool) (x3:List Bool):(List aM)→St:=
  fun u0=>(ams x1 u1 u2 u3 x2 u4 u5 u6 u7 u8 u9 x3 u0)
def GN (x1:Int) (u0:List ay) (u1:List aH) (u2:List aK) (x2:List Bool) (u3:List Bool) (u4:List Bool) (u5:List Bool) (u6:List Bool) (u7:List Bool) (u8:List Bool) (x3:List Bool):(aY ((List aM) × Int) (Ex (List aM) (List aM)))→Exit→St→Prop:=
  LQ 0 [] (wU x1 u0 u1 u2 x2 u3 u4 u5 u6 u7 u8 x3) (wO x1 u0 u1 u2 x2 u3 u4 u5 u6 u7 u8 x3) gJ
section
variable (u0:List aH) (x1:Int) (u2:List ay) (u3:List aK) (x2:List Bool) (u4:List Bool) (u5:List Bool) (u6:List Bool) (u7:List Bool) (u8:List Bool) (u9:List Bool) (x3:List Bool) (v0:Int)
abbrev Wv:Nat × TV:=(43,vD (k92 u0))
abbrev WG:Nat × TV:=(44,vI (u0.length:Int))
abbrev akQ:List (Nat × TV):=[fO,Rc u2 u0 u3 x1,I6 x2 u4 u5 u6 u7 u8 u9,xO x3,Wv u0,WG u0,(45,vI v0)]
end
def wD (x1:Int) (u2:List ay) (u0:List aH) (u3:List aK) (x2:List Bool) (u4:List Bool) (u5:List Bool) (u6:List Bool) (u7:List Bool) (u8:List Bool) (u9:List Bool) (x3:List Bool):((List aM) × Int)→St:=
  fun zz=>match zz with|(u1,v0)=> ⟨akQ u0 x1 u2 u3 x2 u4 u5 u6 u7 u8 u9 x3 v0,vV u1⟩
section
variable (x1:Int) (u1:List ay) (u2:List aH) (u3:List aK) (x3:List Bool) (u0:List aM)
abbrev ajp:List (Nat × TV):=[fO,Rc u1 u2 u3 x1,xO x3]
abbrev akd:St:=⟨ajp x1 u1 u2 u3 x3,vV u0⟩
end
def wV (x1:Int) (u1:List ay) (u2:List aH) (u3:List aK) (x3:List Bool):(List aM)→St:=
  fun u0=>(akd x1 u1 u2 u3 x3 u0)
def Gb (x1:Int) (u0:List ay) (u1:List aH) (u2:List aK) (x2:List Bool) (u3:List Bool) (u4:List Bool) (u5:List Bool) (u6:List Bool) (u7:List Bool) (u8:List Bool) (x3:List Bool):(aY ((List aM) × Int) (Ex (List aM) (List aM)))→Exit→St→Prop:=
  LQ 2 [] (wD x1 u0 u1 u2 x2 u3 u4 u5 u6 u7 u8 x3) (wV x1 u0 u1 u2 x3) gJ
section
variable (u0:List aK) (x3:List Bool) (u2:Int)
abbrev Uy:Nat × TV:=(78,vD (Wq u0))
abbrev Vp:Nat × TV:=(79,vI (u0.length:Int))
abbrev ajJ:List (Nat × TV):=[fO,xO x3,Uy u0,Vp u0,(80,vI u2)]
end
def wP (u0:List aK) (x3:List Bool):((List aM) × Int)→St:=
  fun zz=>match zz with|(u1,u2)=> ⟨ajJ u0 x3 u2,vV u1⟩
def xw  :(List aM)→St:=
  fun o905=> ⟨[],[Gl,(1,some (.cells 80 [.own 37 false o905.length])),(2,none),(37,some (bW 117 2 aM.cell o905))]⟩
def F3 (u0:List aK) (x3:List Bool):(aY ((List aM) × Int) (Ex (List aM) (List aM)))→Exit→St→Prop:=
  LQ 4 [] (wP u0 x3) xw gJ
section
variable (x1:Int) (u1:List ay) (u0:List aH) (u2:List aK) (x2:List Bool) (u7:List Bool) (u8:List Bool) (u9:List Bool) (v0:List Bool) (v1:List Bool) (v2:List Bool) (x3:List Bool) (u4:Int) (r_:Bool) (v8:List aM) (v5:List aM) (u3:Int) (u5:Bool) (v9:List aM) (u6:Int) (v3:Bool) (w0:List aM)
abbrev amj:List SV:=[.one (.yl 0),sD (k90 u1 u0 u2 x1),sD (amS x2 u7 u8 u9 v0 v1 v2),sD (VE x3)]
abbrev aeb:List (Nat × TV):=[fO,Rc u1 u0 u2 x1,I6 x2 u7 u8 u9 v0 v1 v2,xO x3,Wz u1,WH u1,(15,vI 0)]
abbrev ajW:List (Nat × TV):=[fO,Rc u1 u0 u2 x1,I6 x2 u7 u8 u9 v0 v1 v2,xO x3,Wz u1,WH u1,(15,vI u4),(16,vB (decide (u4<(u1.length:Int))))]
abbrev akK:List (Nat × TV):=[fO,Rc u1 u0 u2 x1,I6 x2 u7 u8 u9 v0 v1 v2,xO x3,(5,vI u4),(6,vD (ow [.int .i64 ((at' u1 u4.toNat).bus),.int .i64 ((at' u1 u4.toNat).kind),.int .i64 ((at' u1 u4.toNat).aV),.int .i64 ((at' u1 u4.toNat).sync),.int .i64 ((at' u1 u4.toNat).gM)] 0)),Wz u1,WH u1,(15,vI u4)]
abbrev vZ:=(bif r_ then(!(at' x3 (((at' u1 u4.toNat).bus).toNat)))else false)
abbrev agZ:List (Nat × TV):=[fO,Rc u1 u0 u2 x1,I6 x2 u7 u8 u9 v0 v1 v2,xO x3,Wz u1,WH u1,(15,vI u4),(40,vB (bif (vZ u1 x3 u4 r_)then false else false))]
abbrev aic:List (Nat × Option Ob):=[Gl,(1,some (.cells 80 [.own 41 false v8.length])),(2,none),(41,some (Gn v8))]
abbrev am4:=(gP (gY [(4,r_),(12,true)]) [(4,true)]→All [(0:Int)≤(at' u1 u4.toNat).bus∧(at' u1 u4.toNat).bus<(x3.length:Int)])
abbrev agH:List (Nat × Option Ob):=[Gl,(1,some (.cells 80 [.own 37 false v5.length])),(37,some (Gn v5))]
abbrev ai2:List (Nat × Option Ob):=[Gl,(1,some (.cells 80 [.own 41 false v8.length])),(37,none),(41,some (Gn v8))]
abbrev ahi:List (Nat × TV):=[fO,Rc u1 u0 u2 x1,I6 x2 u7 u8 u9 v0 v1 v2,xO x3,Wz u1,WH u1,(15,vI u4),(40,vB false)]
abbrev ahx:List (Nat × TV):=[fO,Rc u1 u0 u2 x1,I6 x2 u7 u8 u9 v0 v1 v2,xO x3,Wz u1,WH u1,(15,k3 u4)]
abbrev akX:St:=⟨ahx x1 u1 u0 u2 x2 u7 u8 u9 v0 v1 v2 x3 u4,vV v8⟩
abbrev UN:=(gY [(4,r_),(12,false)])
abbrev aiz:=(eqs r_ 4 ((gP (UN r_) [(4,true)]→All [(0:Int)≤(at' u1 u4.toNat).bus∧(at' u1 u4.toNat).bus<(x3.length:Int)])::(eqs r_ 3 [(vZ u1 x3 u4 r_)=false, ¬ gP (UN r_) [(12,true)],(vZ u1 x3 u4 r_)=false, ¬ gP (UN r_) [(12,true)],(vZ u1 x3 u4 r_)=false, ¬ gP (UN r_) [(12,true)],(vZ u1 x3 u4 r_)=false, ¬ gP (UN r_) [(12,true)],(vZ u1 x3 u4 r_)=false, ¬ gP (UN r_) [(12,true)],(vZ u1 x3 u4 r_)=false, ¬ gP (UN r_) [(12,true)],(vZ u1 x3 u4 r_)=false, ¬ gP (UN r_) [(12,true)],(vZ u1 x3 u4 r_)=false])))
abbrev amK:List (Nat × TV):=[fO,Rc u1 u0 u2 x1,I6 x2 u7 u8 u9 v0 v1 v2,xO x3,Wv u0,WG u0,(45,vI 0)]
abbrev amL:List (Nat × TV):=[fO,Rc u1 u0 u2 x1,I6 x2 u7 u8 u9 v0 v1 v2,xO x3,Wv u0,WG u0,(45,vI u3),(46,vB (decide (u3<(u0.length:Int))))]
abbrev ana:List (Nat × TV):=[fO,Rc u1 u0 u2 x1,I6 x2 u7 u8 u9 v0 v1 v2,xO x3,(7,vI u3),(8,vD (ow [.int .i64 ((at' u0 u3.toNat).a),.int .i64 ((at' u0 u3.toNat).b),.int .i64 ((at' u0 u3.toNat).kind),.int .i64 ((at' u0 u3.toNat).most),.int .i64 ((at' u0 u3.toNat).gM),bJ none 2 dV.cell ((at' u0 u3.toNat).trip)] 0)),Wv u0,WG u0,(45,vI u3)]
abbrev vY:=(bif u5 then(!((at' x3 (((at' u0 u3.toNat).a).toNat))==(at' x3 (((at' u0 u3.toNat).b).toNat))))else false)
abbrev afO:List (Nat × TV):=[fO,Rc u1 u0 u2 x1,I6 x2 u7 u8 u9 v0 v1 v2,xO x3,Wv u0,WG u0,(45,vI u3),(75,vB (bif (vY u0 x3 u3 u5)then false else false))]
abbrev ahS:List (Nat × Option Ob):=[Gl,(1,some (.cells 80 [.own 50 false v9.length])),(2,none),(50,some (Gn v9))]
abbrev Y1:=(gY [(4,u5),(17,true)])
abbrev ajU:=(gP (Y1 u5) [(4,true)]→All [(0:Int)≤(at' u0 u3.toNat).a∧(at' u0 u3.toNat).a<(x3.length:Int)])
abbrev ajd:=(gP (Y1 u5) [(4,true)]→All [(0:Int)≤(at' u0 u3.toNat).b∧(at' u0 u3.toNat).b<(x3.length:Int)])
abbrev akL:List (Nat × Option Ob):=[Gl,(1,some (.cells 80 [.own 50 false v9.length])),(37,none),(50,some (Gn v9))]
abbrev ag5:List (Nat × TV):=[fO,Rc u1 u0 u2 x1,I6 x2 u7 u8 u9 v0 v1 v2,xO x3,Wv u0,WG u0,(45,vI u3),(75,vB false)]
abbrev aik:List (Nat × TV):=[fO,Rc u1 u0 u2 x1,I6 x2 u7 u8 u9 v0 v1 v2,xO x3,Wv u0,WG u0,(45,k3 u3)]
abbrev ani:St:=⟨aik x1 u1 u0 u2 x2 u7 u8 u9 v0 v1 v2 x3 u3,vV v9⟩
abbrev RP:=(gY [(4,u5),(17,false)])
abbrev aj4:=(eqs u5 4 ((gP (RP u5) [(4,true)]→All [(0:Int)≤(at' u0 u3.toNat).a∧(at' u0 u3.toNat).a<(x3.length:Int)])::(eqs u5 5 ((gP (RP u5) [(4,true)]→All [(0:Int)≤(at' u0 u3.toNat).b∧(at' u0 u3.toNat).b<(x3.length:Int)])::(eqs u5 3 [(vY u0 x3 u3 u5)=false, ¬ gP (RP u5) [(17,true)],(vY u0 x3 u3 u5)=false, ¬ gP (RP u5) [(17,true)],(vY u0 x3 u3 u5)=false, ¬ gP (RP u5) [(17,true)],(vY u0 x3 u3 u5)=false, ¬ gP (RP u5) [(17,true)],(vY u0 x3 u3 u5)=false, ¬ gP (RP u5) [(17,true)],(vY u0 x3 u3 u5)=false, ¬ gP (RP u5) [(17,true)],(vY u0 x3 u3 u5)=false, ¬ gP (RP u5) [(17,true)],(vY u0 x3 u3 u5)=false])))))
abbrev ai0:List (Nat × TV):=[fO,xO x3,Uy u2,Vp u2,(80,vI 0)]
abbrev akk:List (Nat × TV):=[fO,xO x3,Uy u2,Vp u2,(80,vI u6),(81,vB (decide (u6<(u2.length:Int))))]
abbrev ak1:Nat × TV:=(10,akb u2 u6)
abbrev amX:List (Nat × TV):=[fO,xO x3,(9,vI u6),ak1 u2 u6,Uy u2,Vp u2,(80,vI u6)]
abbrev anw:List (Nat × TV):=[fO,xO x3,(9,vI u6),ak1 u2 u6,(11,vB v3),Uy u2,Vp u2,(80,vI u6)]
abbrev akS:List SV:=[sD (bJ none 1 (aT .i64) [(Bj u2 u6).e0,(Bj u2 u6).e1]),sD (.fn 125 1 (YC x3))]
abbrev aht:List (Nat × TV):=[fO,xO x3,Uy u2,Vp u2,(80,vI u6),(98,vB (bif v3 then false else false))]
abbrev afP:List (Nat × Option Ob):=[Gl,(1,some (.cells 80 [.own 58 false w0.length])),(2,none),(58,some (Gn w0))]
abbrev anc:List (Nat × Option Ob):=[Gl,(1,some (.cells 80 [.own 58 false w0.length])),(37,none),(58,some (Gn w0))]
abbrev ag2:List (Nat × TV):=[fO,xO x3,Uy u2,Vp u2,(80,vI u6),(98,vB false)]
abbrev ah8:List (Nat × TV):=[fO,xO x3,Uy u2,Vp u2,(80,k3 u6)]
abbrev anx:St:=⟨ah8 u2 x3 u6,vV w0⟩
end
theorem F8 (x1:Int) (u1:List ay) (u0:List aH) (u2:List aK) (x2:List Bool) (u7:List Bool) (u8:List Bool) (u9:List Bool) (v0:List Bool) (v1:List Bool) (v2:List Bool) (x3:List Bool) (v7:List aM) {r:List aM} (h:lF x1 u1 u0 u2 x2 u7 u8 u9 v0 v1 v2 x3 v7=some r):Fn Try.prog 124 (amj x1 u1 u0 u2 x2 u7 u8 u9 v0 v1 v2 x3) (ZF v7) (.jl []) [Gl,(1,some (.cells 80 [.own 3 false r.length])),(2,none),(3,some (bW 117 2 aM.cell r))]:=by
 refine fN tT Try.func124 rfl rfl fun B=> ?_
 show bR _ _ _ _ _ _ (gJ r) _
 unfold lF at h
 refine aQ (sz tT ⟨aeb x1 u1 u0 u2 x2 u7 u8 u9 v0 v1 v2 x3,ZF v7⟩ {} [] ?_)
 refine bE h fun y hy h=> ?_
 refine aI (.trans (cO.aaI (E0:=80) (cs:=[.own 2 false v7.length]) (nn:=false) (len:=v7.length) (E:=117) (esz:=2) (n:=v7.length) (el:=aS aM.cell v7) (p:=1) (q:=0) (b:=2) (b':=42) (by kernel_rfl) (by kernel_rfl) (by kernel_rfl) (by kernel_rfl)) (.trans (fz ⟨aeb x1 u1 u0 u2 x2 u7 u8 u9 v0 v1 v2 x3,[Gl,(1,some (.cells 80 [.own 42 false v7.length])),(2,none),(42,some (Gn v7))]⟩ []) (cO.fin (st':=⟨aeb x1 u1 u0 u2 x2 u7 u8 u9 v0 v1 v2 x3,vV v7⟩) (cs:=[]) ⟨[],[(0,0),(1,1),(2,2),(42,37)]⟩ [0,1,2,3,13,14,15] (by kernel_rfl) trivial))) ?_
 refine aL [] (wU x1 u1 u0 u2 x2 u7 u8 u9 v0 v1 v2 x3) (wO x1 u1 u0 u2 x2 u7 u8 u9 v0 v1 v2 x3) gJ hy (fun s f h=> ?_) ?_
 ·clear hy
  show bR _ _ _ _ _ _ ((GN x1 u1 u0 u2 x2 u7 u8 u9 v0 v1 v2 x3) f) _
  unfold kR at h
  obtain⟨v5,u4⟩:=s
  refine sz tT ⟨ajW x1 u1 u0 u2 x2 u7 u8 u9 v0 v1 v2 x3 u4,vV v5⟩ {} [] ?_
  refine aQ ?_
  refine bI h (fun hb1 h=> ?_) (fun hb1 h=> ?_)
  ·refine ct hb1 ?_
   refine aP (aQ (aB (aQ (aO h fun a1 h=> ?_))))
   refine rg tT ⟨akK x1 u1 u0 u2 x2 u7 u8 u9 v0 v1 v2 x3 u4,vV v5⟩ [_] {fr:=[(3,40)] } [40] ⟨a1,trivial⟩ ?_
   refine aQ (bE h fun r_ hr_ h=> ?_)
   refine bI h (fun hb h=> ?_) (fun hb h=> ?_)
   ·skip
    refine bE h fun v8 hr_1 h=> ?_
    refine aO h fun a1 h=> ?_
    have q0:=iB (⟨x1,u1,u0,u2⟩:au) (⟨x2,u7,u8,u9,v0,v1,v2⟩:aA) u4 hr_
    refine ri tT ⟨agZ x1 u1 u0 u2 x2 u7 u8 u9 v0 v1 v2 x3 u4 r_,aic v8⟩ (_::(eqs r_ 4 ((am4 u1 x3 u4 r_)::(eqs r_ 3 [(vZ u1 x3 u4 r_)=true,(vZ u1 x3 u4 r_)=true,(vZ u1 x3 u4 r_)=true,(vZ u1 x3 u4 r_)=true,(vZ u1 x3 u4 r_)=true,(vZ u1 x3 u4 r_)=true,gP (gY [(4,r_),(12,true)]) [(12,true)]→All [Yl Try.prog 0 [.agg [cI 2,cI u4],sI ((at' u1 u4.toNat).aV)] (agH v5) (vB true) (ai2 v8)],gP (gY [(4,r_),(12,true)]) [(12,true)],(vZ u1 x3 u4 r_)=true,(vZ u1 x3 u4 r_)=true])))) {yb:=[(4,r_),(12,true)],an:=[(3,cA q0 []),(18, .call [0,1,37] (vB true) (ai2 v8))] } [] ⟨q0,ae ⟨(fun hg=> ⟨a1 (bC hg),trivial⟩),ae ⟨hb,hb,hb,hb,hb,hb,(fun hg=> ⟨yK [(2,37),(3,41)] (oQ 2 u4 ((at' u1 u4.toNat).aV) v5 hr_1),trivial⟩),⟨rfl,trivial⟩,hb,hb,trivial⟩⟩⟩ (cO.le (st':=⟨ahi x1 u1 u0 u2 x2 u7 u8 u9 v0 v1 v2 x3 u4,aic v8⟩) ⟨⟨tR,tR,tR,tR,tR,tR,tR,⟨_,rfl,eB.v (fG.one (eZ.of (congrArg (fun b=>CV.d (.bool b)) (Gz hb))))⟩,trivial⟩,.refl _⟩) ?_
    refine cn (aP (ri tT ⟨ahx x1 u1 u0 u2 x2 u7 u8 u9 v0 v1 v2 x3 u4,aic v8⟩ [] {} [] trivial (cO.fin (st':=(akX x1 u1 u0 u2 x2 u7 u8 u9 v0 v1 v2 x3 u4 v8)) (cs:=[]) ⟨[],[(0,0),(1,1),(2,2),(41,37)]⟩ [0,1,2,3,13,14,15] (by kernel_rfl) trivial) ?_))
    obtain rfl:=oi h
    exact lN
   ·skip
    refine aO h fun a1 h=> ?_
    have q0:=iB (⟨x1,u1,u0,u2⟩:au) (⟨x2,u7,u8,u9,v0,v1,v2⟩:aA) u4 hr_
    refine ri tT ⟨agZ x1 u1 u0 u2 x2 u7 u8 u9 v0 v1 v2 x3 u4 r_,vV v5⟩ (_::(aiz u1 x3 u4 r_)) {yb:=[(4,r_),(12,false)],an:=[(3,cA q0 []),(13, .skip),(14, .skip),(15, .skip),(16, .skip),(17, .skip),(18, .skip),(19, .skip)] } [] ⟨q0,ae ⟨(fun hg=> ⟨a1 (bC hg),trivial⟩),ae ⟨hb,(fun h=>Bool.noConfusion (show false=true from h.1)),hb,(fun h=>Bool.noConfusion (show false=true from h.1)),hb,(fun h=>Bool.noConfusion (show false=true from h.1)),hb,(fun h=>Bool.noConfusion (show false=true from h.1)),hb,(fun h=>Bool.noConfusion (show false=true from h.1)),hb,(fun h=>Bool.noConfusion (show false=true from h.1)),hb,(fun h=>Bool.noConfusion (show false=true from h.1)),hb,trivial⟩⟩⟩ (cO.le (st':=⟨ahi x1 u1 u0 u2 x2 u7 u8 u9 v0 v1 v2 x3 u4,vV v5⟩) ⟨⟨tR,tR,tR,tR,tR,tR,tR,⟨_,rfl,eB.v (fG.one (eZ.of (congrArg (fun b=>CV.d (.bool b)) (FV hb))))⟩,trivial⟩,.refl _⟩) ?_
    refine cn (aP (rz tT (akX x1 u1 u0 u2 x2 u7 u8 u9 v0 v1 v2 x3 u4 v5) {} [] ?_))
    obtain rfl:=oi h
    exact lN
  ·refine cf hb1 ?_
   refine aI (fz (ams x1 u1 u0 u2 x2 u7 u8 u9 v0 v1 v2 x3 v5) []) ?_
   refine aX ?_
   obtain rfl:=oi h
   exact lB
 ·clear hy
  cases y with
  |brk z=>
   obtain⟨w1,rfl⟩: ∃q,q=z:=⟨_,rfl⟩
   unfold dZ
   refine⟨_, .refl, ?_⟩
   refine aQ (sz tT ⟨amK x1 u1 u0 u2 x2 u7 u8 u9 v0 v1 v2 x3,vV w1⟩ {} [] ?_)
   refine bE h fun y1 hy h=> ?_
   refine aL [] (wD x1 u1 u0 u2 x2 u7 u8 u9 v0 v1 v2 x3) (wV x1 u1 u0 u2 x3) gJ hy (fun s f h=> ?_) ?_
   ·clear hy
    show bR _ _ _ _ _ _ ((Gb x1 u1 u0 u2 x2 u7 u8 u9 v0 v1 v2 x3) f) _
    unfold kT at h
    obtain⟨v6,u3⟩:=s
    refine sz tT ⟨amL x1 u1 u0 u2 x2 u7 u8 u9 v0 v1 v2 x3 u3,vV v6⟩ {} [] ?_
    refine aQ ?_
    refine bI h (fun hb3 h=> ?_) (fun hb3 h=> ?_)
    ·refine ct hb3 ?_
     refine aP (aQ (aB (aQ (aO h fun a1 h=> ?_))))
     refine rg tT ⟨ana x1 u1 u0 u2 x2 u7 u8 u9 v0 v1 v2 x3 u3,vV v6⟩ [_] {fr:=[(3,49)] } [49] ⟨a1,trivial⟩ ?_
     refine aQ (bE h fun u5 hr_2 h=> ?_)
     refine bI h (fun hb2 h=> ?_) (fun hb2 h=> ?_)
     ·skip
      refine bE h fun v9 hr_3 h=> ?_
      refine aO h fun⟨a1,a2⟩ h=> ?_
      have q0:=fA (⟨x1,u1,u0,u2⟩:au) (⟨x2,u7,u8,u9,v0,v1,v2⟩:aA) u3 hr_2
      refine di tT mX ⟨afO x1 u1 u0 u2 x2 u7 u8 u9 v0 v1 v2 x3 u3 u5,ahS v9⟩ (_::(eqs u5 4 ((ajU u0 x3 u3 u5)::(eqs u5 5 ((ajd u0 x3 u3 u5)::(eqs u5 3 [(vY u0 x3 u3 u5)=true,(vY u0 x3 u3 u5)=true,(vY u0 x3 u3 u5)=true,(vY u0 x3 u3 u5)=true,(vY u0 x3 u3 u5)=true,(vY u0 x3 u3 u5)=true,gP (Y1 u5) [(17,true)]→All [Yl Try.prog 0 [.agg [cI 3,cI u3],sI ((at' u0 u3.toNat).most)] (agH v6) (vB true) (akL v9)],gP (Y1 u5) [(17,true)],(vY u0 x3 u3 u5)=true,(vY u0 x3 u3 u5)=true])))))) {yb:=[(4,u5),(17,true)],an:=[(3,cA q0 []),(23, .call [0,1,37] (vB true) (akL v9))] } [] ⟨q0,ae ⟨(fun hg=> ⟨a1 (bC hg),trivial⟩),ae ⟨(fun hg=> ⟨a2 (bC hg),trivial⟩),ae ⟨hb2,hb2,hb2,hb2,hb2,hb2,(fun hg=> ⟨yK [(2,37),(3,50)] (oQ 3 u3 ((at' u0 u3.toNat).most) v6 hr_3),trivial⟩),⟨rfl,trivial⟩,hb2,hb2,trivial⟩⟩⟩⟩ (cO.le (st':=⟨ag5 x1 u1 u0 u2 x2 u7 u8 u9 v0 v1 v2 x3 u3,ahS v9⟩) ⟨⟨tR,tR,tR,tR,tR,tR,tR,⟨_,rfl,eB.v (fG.one (eZ.of (congrArg (fun b=>CV.d (.bool b)) (Gz hb2))))⟩,trivial⟩,.refl _⟩) ?_
      refine cn (aP (ri tT ⟨aik x1 u1 u0 u2 x2 u7 u8 u9 v0 v1 v2 x3 u3,ahS v9⟩ [] {} [] trivial (cO.fin (st':=(ani x1 u1 u0 u2 x2 u7 u8 u9 v0 v1 v2 x3 u3 v9)) (cs:=[]) ⟨[],[(0,0),(1,1),(2,2),(50,37)]⟩ [0,1,2,3,43,44,45] (by kernel_rfl) trivial) ?_))
      obtain rfl:=oi h
      exact lN
     ·skip
      refine aO h fun⟨a1,a2⟩ h=> ?_
      have q0:=fA (⟨x1,u1,u0,u2⟩:au) (⟨x2,u7,u8,u9,v0,v1,v2⟩:aA) u3 hr_2
      refine di tT mX ⟨afO x1 u1 u0 u2 x2 u7 u8 u9 v0 v1 v2 x3 u3 u5,vV v6⟩ (_::(aj4 u0 x3 u3 u5)) {yb:=[(4,u5),(17,false)],an:=[(3,cA q0 []),(18, .skip),(19, .skip),(20, .skip),(21, .skip),(22, .skip),(23, .skip),(24, .skip)] } [] ⟨q0,ae ⟨(fun hg=> ⟨a1 (bC hg),trivial⟩),ae ⟨(fun hg=> ⟨a2 (bC hg),trivial⟩),ae ⟨hb2,(fun h=>Bool.noConfusion (show false=true from h.1)),hb2,(fun h=>Bool.noConfusion (show false=true from h.1)),hb2,(fun h=>Bool.noConfusion (show false=true from h.1)),hb2,(fun h=>Bool.noConfusion (show false=true from h.1)),hb2,(fun h=>Bool.noConfusion (show false=true from h.1)),hb2,(fun h=>Bool.noConfusion (show false=true from h.1)),hb2,(fun h=>Bool.noConfusion (show false=true from h.1)),hb2,trivial⟩⟩⟩⟩ (cO.le (st':=⟨ag5 x1 u1 u0 u2 x2 u7 u8 u9 v0 v1 v2 x3 u3,vV v6⟩) ⟨⟨tR,tR,tR,tR,tR,tR,tR,⟨_,rfl,eB.v (fG.one (eZ.of (congrArg (fun b=>CV.d (.bool b)) (FV hb2))))⟩,trivial⟩,.refl _⟩) ?_
      refine cn (aP (rz tT (ani x1 u1 u0 u2 x2 u7 u8 u9 v0 v1 v2 x3 u3 v6) {} [] ?_))
      obtain rfl:=oi h
      exact lN
    ·refine cf hb3 ?_
     refine aI (fz (akd x1 u1 u0 u2 x3 v6) []) ?_
     refine aX ?_
     obtain rfl:=oi h
     exact lB
   ·clear hy
    cases y1 with
    |brk z=>
     obtain⟨w2,rfl⟩: ∃q,q=z:=⟨_,rfl⟩
     unfold dZ
     refine⟨_, .refl, ?_⟩
     refine sz tT ⟨ai0 u2 x3,vV w2⟩ {} [] ?_
     refine bE h fun y2 hy h=> ?_
     refine aL [] (wP u2 x3) xw gJ hy (fun s f h=> ?_) ?_
     ·clear hy
      show bR _ _ _ _ _ _ ((F3 u2 x3) f) _
      unfold jq at h
      obtain⟨v4,u6⟩:=s
      refine sz tT ⟨akk u2 x3 u6,vV v4⟩ {} [] ?_
      refine aQ ?_
      refine bI h (fun hb5 h=> ?_) (fun hb5 h=> ?_)
      ·refine ct hb5 ?_
       refine aP (aQ (aB (aQ (aO h fun a1 h=> ?_))))
       refine rg tT ⟨amX u2 x3 u6,vV v4⟩ [_] {fr:=[(3,57)] } [57] ⟨a1,trivial⟩ ?_
       refine aQ (bE h fun v3 hr_4 h=> ?_)
       refine rg tT ⟨anw u2 x3 u6 v3,vV v4⟩ [Fn Try.prog 67 [sD (.sl (some true) 1 [(Bj u2 u6).e0,(Bj u2 u6).e1].length (fun i j=>((ag0 u2 u6).getD (0+(0+(i*1+j))) .nilp))),sD (.fn 125 1 (YC x3))] [] (vB v3) []] {an:=[(3, .call [] (vB v3) [])] } [] ⟨Fn.leH (args:=(akS u2 x3 u6)) (hin:=[]) (mE [(Bj u2 u6).e0,(Bj u2 u6).e1] x3 hr_4) ⟨fG.one (eZ.d (iM.sl (.inl rfl) (by intro i hi j hj;match i,j,hi,hj with|0,0,_,_=>exact .refl _|1,0,_,_=>exact .refl _))),fG.refl _,trivial⟩ trivial,trivial⟩ ?_
       refine aQ ?_
       refine bI h (fun hb4 h=> ?_) (fun hb4 h=> ?_)
       ·skip
        refine bE h fun w0 hr_5 h=> ?_
        refine ri tT ⟨aht u2 x3 u6 v3,afP w0⟩ [v3=true,v3=true,v3=true,v3=true,v3=true,v3=true,gP (gY [(1,true)]) [(1,true)]→All [Yl Try.prog 0 [.agg [cI 0,cI u6],sI ((at' u2 u6.toNat).aV)] (agH v4) (vB true) (anc w0)],gP (gY [(1,true)]) [(1,true)],v3=true,v3=true] {yb:=[(1,true)],an:=[(7, .call [0,1,37] (vB true) (anc w0))] } [] ⟨hb4,hb4,hb4,hb4,hb4,hb4,(fun hg=> ⟨yK [(2,37),(3,58)] (oQ 0 u6 ((at' u2 u6.toNat).aV) v4 hr_5),trivial⟩),⟨rfl,trivial⟩,hb4,hb4,trivial⟩ (cO.le (st':=⟨ag2 u2 x3 u6,afP w0⟩) ⟨⟨tR,tR,tR,tR,tR,⟨_,rfl,eB.v (fG.one (eZ.of (congrArg (fun b=>CV.d (.bool b)) (Gz hb4))))⟩,trivial⟩,.refl _⟩) ?_
        refine cn (aP (ri tT ⟨ah8 u2 x3 u6,afP w0⟩ [] {} [] trivial (cO.fin (st':=(anx u2 x3 u6 w0)) (cs:=[]) ⟨[],[(0,0),(1,1),(2,2),(58,37)]⟩ [0,3,78,79,80] (by kernel_rfl) trivial) ?_))
        obtain rfl:=oi h
        exact lN
       ·skip
        refine ri tT ⟨aht u2 x3 u6 v3,vV v4⟩ [v3=false, ¬ gP (gY [(1,false)]) [(1,true)],v3=false, ¬ gP (gY [(1,false)]) [(1,true)],v3=false, ¬ gP (gY [(1,false)]) [(1,true)],v3=false, ¬ gP (gY [(1,false)]) [(1,true)],v3=false, ¬ gP (gY [(1,false)]) [(1,true)],v3=false, ¬ gP (gY [(1,false)]) [(1,true)],v3=false, ¬ gP (gY [(1,false)]) [(1,true)],v3=false] {yb:=[(1,false)],an:=[(2, .skip),(3, .skip),(4, .skip),(5, .skip),(6, .skip),(7, .skip),(8, .skip)] } [] ⟨hb4,(fun h=>Bool.noConfusion (show false=true from h.1)),hb4,(fun h=>Bool.noConfusion (show false=true from h.1)),hb4,(fun h=>Bool.noConfusion (show false=true from h.1)),hb4,(fun h=>Bool.noConfusion (show false=true from h.1)),hb4,(fun h=>Bool.noConfusion (show false=true from h.1)),hb4,(fun h=>Bool.noConfusion (show false=true from h.1)),hb4,(fun h=>Bool.noConfusion (show false=true from h.1)),hb4,trivial⟩ (cO.le (st':=⟨ag2 u2 x3 u6,vV v4⟩) ⟨⟨tR,tR,tR,tR,tR,⟨_,rfl,eB.v (fG.one (eZ.of (congrArg (fun b=>CV.d (.bool b)) (FV hb4))))⟩,trivial⟩,.refl _⟩) ?_
        refine cn (aP (rz tT (anx u2 x3 u6 v4) {} [] ?_))
        obtain rfl:=oi h
        exact lN
      ·refine cf hb5 ?_
       refine aI (fz ⟨[],vV v4⟩ []) ?_
       refine aX ?_
       obtain rfl:=oi h
       exact lB
     ·clear hy
      cases y2 with
      |brk z=>
       obtain⟨o905,rfl⟩: ∃q,q=z:=⟨_,rfl⟩
       unfold dZ
       refine⟨_,cO.fin (st':=⟨[],[Gl,(1,some (.cells 80 [.own 3 false o905.length])),(2,none),(3,some (bW 117 2 aM.cell o905))]⟩) (cs:=[]) ⟨[],[(0,0),(1,1),(2,2),(37,3)]⟩ [] (by kernel_rfl) trivial, ?_⟩
       obtain rfl:=oi h
       exact bL.mk (.inl rfl) (p:=[]) (l:=[]) (by kernel_rfl) trivial (eB.refl _) (hN 2 ⟨rfl,trivial,.refl _⟩)
      |ret v=>
       obtain rfl:=oi h
       unfold dZ
       intro e st hn ha hR
       cases e with
       |normal=>exact absurd rfl hn
       |exit id=>exact hR
       |goto l=>exact hR
       |ret=>exact hR
       |panic c=>exact hR
       |outgrown=>exact hR
    |ret v=>
     obtain rfl:=oi h
     unfold dZ
     intro e st hn ha hR
     cases e with
     |normal=>exact absurd rfl hn
     |exit id=>exact hR
     |goto l=>exact hR
     |ret=>exact hR
     |panic c=>exact hR
     |outgrown=>exact hR
  |ret v=>
   obtain rfl:=oi h
   unfold dZ
   intro e st hn ha hR
   cases e with
   |normal=>exact absurd rfl hn
   |exit id=>exact hR
   |goto l=>exact hR
   |ret=>exact hR
   |panic c=>exact hR
   |outgrown=>exact hR
def Pt  :((List aM) × Int)→Exit→St→Prop:=
  fun r=>bL TT [.tmp 4, .tmp 5] (.jl [sD (bJ none 2 aM.cell r.1),sI r.2]) []
section
variable (p:au) (s_:aA) (r_:aD × (List Bool) × Int) (u0:Int × (List ay) × (List aH) × (List aK) × (List Bool) × (List Bool) × (List Bool) × (List Bool) × (List Bool) × (List Bool) × (List Bool) × (List Bool))
abbrev Wh:St:=⟨[k26 p,k10 s_],[]⟩
abbrev K8:DV:=(bJ none 1 aF r_.2.1)
abbrev ahk:List (Nat × TV):=[k26 p,k10 s_,(7,vD (K8 r_)),(9,vP 20 0)]
abbrev af4:Nat × Option Ob:=(21,some (bW 117 2 aM.cell ([]:List aM)))
abbrev akP:List (Nat × Option Ob):=[(20,some (.cells 80 [.own 21 false (([]:List aM).length)])),af4]
abbrev ac7:DV:=(ow [.int .i64 u0.1,bJ none 5 ay.cell u0.2.1,bJ none 6 aH.cell u0.2.2.1,bJ none 4 aK.cell u0.2.2.2.1] 0)
abbrev ac3:DV:=(ow [bJ none 1 aF u0.2.2.2.2.1,bJ none 1 aF u0.2.2.2.2.2.1,bJ none 1 aF u0.2.2.2.2.2.2.1,bJ none 1 aF u0.2.2.2.2.2.2.2.1,bJ none 1 aF u0.2.2.2.2.2.2.2.2.1,bJ none 1 aF u0.2.2.2.2.2.2.2.2.2.1,bJ none 1 aF u0.2.2.2.2.2.2.2.2.2.2.1] 0)
abbrev ad5:DV:=(ow [bJ none 1 aF u0.2.2.2.2.2.2.2.2.2.2.2] 0)
abbrev adm:TV:=(vD (.fn 124 3 (qC [ac7 u0,ac3 u0,ad5 u0])))
abbrev anj:List (Nat × TV):=[(9,vP 20 0),(24,adm u0)]
abbrev ajk:List CV:=[.d (ac7 u0),.d (ac3 u0),.d (ad5 u0)]
end
theorem Dt (p:au) (s_:aA) {r:(List aM) × Int} (h:kI p s_=some r):Fn Try.prog 33 (Ms p s_) [] (.jl [sD (bJ none 2 aM.cell r.1),sI r.2]) []:=by
 refine fN tT Try.func33 rfl rfl fun B=> ?_
 show bR _ _ _ _ _ _ (Pt r) _
 unfold kI at h
 refine sz tT (Wh p s_) {fr:=[(0,12),(1,13)] } [12,13] ?_
 refine aQ (bE h fun r_ hr_ h=> ?_)
 have q0:=rk [(0,14),(1,15),(2,16),(3,17),(4,18)] (ru p s_ hr_)
 refine rg tT ⟨[k26 p,k10 s_,(7,vD (K8 r_)),(8,vI r_.2.2)],[]⟩ [_,r_.2.1.length=r_.2.1.length] {an:=[(2,cA q0 [])],fr:=[(7,19)] } [17] ⟨q0,rfl,trivial⟩ ?_
 refine aQ (sz tT ⟨[k26 p,k10 s_,(7,vD (K8 r_)),(8,vI r_.2.2),(19,vB (!decide (r_.2.2=0)))],[]⟩ {} [] ?_)
 refine bI h (fun hb h=> ?_) (fun hb h=> ?_)
 ·refine ct hb ?_
  refine sz tT ⟨[(4,vD nS),(5,vI r_.2.2)],[]⟩ {} [] ?_
  refine aI (cO.le (st':=⟨[(4,vD (bJ none 2 aM.cell ([]:List aM))),(5,vI r_.2.2)],[]⟩) ⟨⟨⟨_,rfl,eB.v (fG.one (eZ.d iM.nil'))⟩,tR,trivial⟩,trivial⟩) ?_
  refine aR ?_
  obtain rfl:=oi h
  exact rl [sD (bJ none 2 aM.cell ([]:List aM)),sI r_.2.2]
 ·refine cf hb ?_
  refine aP (si tT ⟨ahk p s_ r_,[(20,some (.cells 80 [.d nS]))]⟩ [] {fr:=[(0,20)] } [] trivial (.trans (cO.Dl (E:=0) (esz:=0) (E0:=80) (cs:=[.d nS]) (p:=20) (q:=0) (b:=21) (esz0:=0) (el0:=fun _ _=> .nilp) (ob:= .arr 117 2 0 (aS aM.cell ([]:List aM))) (fun _ _ _ _ h=> .inl ⟨h,rfl⟩) (by kernel_rfl) (by kernel_rfl) (by kernel_rfl)) (.trans (fz ⟨ahk p s_ r_,[(20,some (.cells 80 [.own 21 false 0])),(21,some (.arr 117 2 0 (aS aM.cell ([]:List aM))))]⟩ []) (cO.le (st':=⟨ahk p s_ r_,akP⟩) ⟨⟨tR,tR,tR,tR,trivial⟩,⟨rfl,cu ⟨cW,trivial⟩,⟨rfl,oW,trivial⟩⟩⟩))) ?_)
  refine aQ (aQ (bE h fun u0 hr_1 h=> ?_))
  have q0:=Af p s_ r_.2.1 hr_1
  refine rg tT ⟨anj u0,akP⟩ [_] {an:=[(3,cA q0 [])] } [] ⟨q0,trivial⟩ ?_
  refine aB (bE h fun u1 hr_2 h=> ?_)
  refine mg 22 [(9,vP 20 0)] [] [22,20,21] (.jl []) [(22,some (.loop ji 0 [(9,vP 20 0)])),(20,some (.cells 80 [.own 23 false u1.length])),(21,none),(23,some (Gn u1))] (adm u0) 124 [] (ajk u0) [(22,some (.loop ji 0 [(9,vP 20 0)])),(20,some (.cells 80 [.own 21 false (([]:List aM).length)])),af4] [.one (.yl 22),sD (ac7 u0),sD (ac3 u0),sD (ad5 u0)] ji 0 [(9,vP 20 0)] (by kernel_rfl) (by kernel_rfl) (by kernel_rfl) (by kernel_rfl) (by kernel_rfl) (by kernel_rfl) (by kernel_rfl) (rK [(0,22),(1,20),(2,21),(3,23)] (F8 u0.1 u0.2.1 u0.2.2.1 u0.2.2.2.1 u0.2.2.2.2.1 u0.2.2.2.2.2.1 u0.2.2.2.2.2.2.1 u0.2.2.2.2.2.2.2.1 u0.2.2.2.2.2.2.2.2.1 u0.2.2.2.2.2.2.2.2.2.1 u0.2.2.2.2.2.2.2.2.2.2.1 u0.2.2.2.2.2.2.2.2.2.2.2 ([]:List aM) hr_2)) (by kernel_rfl) rfl (IG.zero rfl) (cO.fin (st':=⟨anj u0,[(20,some (.cells 80 [.own 23 false u1.length])),(21,none),(23,some (Gn u1))]⟩) (cs:=[]) ⟨[],[(20,20),(21,21),(23,23)]⟩ [9,24] (by kernel_rfl) trivial) ?_
  refine sg tT ⟨[(4,vD (bJ none 2 aM.cell u1)),(5,vI 0)],[]⟩ [u1.length=u1.length] {} [23] ⟨rfl,trivial⟩ ?_
  refine aR ?_
  obtain rfl:=oi h
  exact rl [sD (bJ none 2 aM.cell u1),sI 0]
def vU  :Int→Exit→St→Prop:=
  fun r=>bL TT [.tmp 2] (vI r) []
section
variable (x:aD)
abbrev YI:Nat × TV:=(7,vD (bJ none 2 aj.cell x.af))
abbrev Yg:Nat × TV:=(8,vI (x.af.length:Int))
end
def Bq (x:aD):(Int × Int)→St:=
  fun zz=>match zz with|(n,t9)=> ⟨[(3,vI n),YI x,Yg x,(9,vI t9)],[]⟩
def BX  :Int→St:=
  fun n1=> ⟨[(3,vI n1)],[]⟩
def KF (x:aD):(aY (Int × Int) (Ex Int Int))→Exit→St→Prop:=
  LQ 0 [] (Bq x) BX vU
section
variable (x:aD) (t9:Int) (n:Int)
abbrev abZ:List CV:=[.d (bJ none 1 (aT .i64) x.ah),.d (bJ none 1 (aT .i64) x.ai),.d (bJ none 2 aj.cell x.af)]
abbrev al3:List SV:=[.agg (abZ x)]
abbrev afI:Ob:=(.cells 77 (abZ x))
abbrev anh:List (Nat × Option Ob):=[(5,some (afI x))]
abbrev ab0:TV:=(vB (decide (t9<(x.af.length:Int))))
abbrev MN:=((at' x.af t9.toNat).e0)
abbrev Nk:=((at' x.af t9.toNat).e1)
abbrev aga:TV:=(vD (ow [.int .i64 (MN x t9),.int .i64 (Nk x t9)] 0))
abbrev alp:Nat × TV:=(3,vI (IntKind.wrap .i64 (n+(IntKind.wrap .i64 ((MN x t9)+(Nk x t9))))))
abbrev abj:Nat × TV:=(9,k3 t9)
end
theorem fK (x:aD) {r:Int} (h:gW x=some r):Fn Try.prog 41 (al3 x) [] (vI r) []:=by
 refine fN tT Try.func41 rfl rfl fun B=> ?_
 show bR _ _ _ _ _ _ (vU r) _
 unfold gW at h
 refine sz tT ⟨[(1,vP 5 0)],anh x⟩ {fr:=[(0,5)] } [] ?_
 refine sz tT ⟨[(1,vP 5 0),(3,vI 0)],anh x⟩ {} [] ?_
 refine aQ (sz tT ⟨[(3,vI 0),YI x,Yg x,(9,vI 0)],[]⟩ {} [] ?_)
 refine bE h fun y hy h=> ?_
 refine aL [] (Bq x) BX vU hy (fun s f h=> ?_) ?_
 ·clear hy
  show bR _ _ _ _ _ _ ((KF x) f) _
  unfold jH at h
  obtain⟨n,t9⟩:=s
  refine sz tT ⟨[(3,vI n),YI x,Yg x,(9,vI t9),(10,ab0 x t9)],[]⟩ {} [] ?_
  refine aQ ?_
  refine bI h (fun hb h=> ?_) (fun hb h=> ?_)
  ·refine ct hb ?_
   refine aP (aQ (aB (aQ (aO h fun a1 h=> ?_))))
   refine rg tT ⟨[(3,vI n),(5,aga x t9),YI x,Yg x,(9,vI t9)],[]⟩ [_] {fr:=[(2,9)] } [9] ⟨a1,trivial⟩ ?_
   refine rg tT ⟨[alp x t9 n,YI x,Yg x,(9,vI t9)],[]⟩ [(0:Int)≤0∧(0:Int)<(2:Nat),(0:Int)≤1∧(1:Int)<(2:Nat)] {} [] ⟨(by decide),(by decide),trivial⟩ ?_
   refine rz tT ⟨[alp x t9 n,YI x,Yg x,abj t9],[]⟩ {} [] ?_
   obtain rfl:=oi h
   exact lN
  ·refine cf hb ?_
   refine aI (fz ⟨[(3,vI n)],[]⟩ []) ?_
   refine aX ?_
   obtain rfl:=oi h
   exact lB
 ·clear hy
  cases y with
  |brk z=>
   obtain⟨n1,rfl⟩: ∃q,q=z:=⟨_,rfl⟩
   unfold dZ
   refine⟨_, .refl, ?_⟩
   refine sz tT ⟨[(2,vI n1)],[]⟩ {} [] ?_
   refine aR ?_
   obtain rfl:=oi h
   exact rl [sI n1]
  |ret v=>
   obtain rfl:=oi h
   unfold dZ
   intro e st hn ha hR
   cases e with
   |normal=>exact absurd rfl hn
   |exit id=>exact hR
   |goto l=>exact hR
   |ret=>exact hR
   |panic c=>exact hR
   |outgrown=>exact hR
def AU  :(Bool × Int)→Exit→St→Prop:=
  fun r=>bL TT [.tmp 4, .tmp 5] (.jl [sB r.1,sI r.2]) []
section
variable (r_:aD × (List Bool) × Int) (p:au)
abbrev ahH:TV:=(vD (ow [bJ none 1 (aT .i64) r_.1.ah,bJ none 1 (aT .i64) r_.1.ai,bJ none 2 aj.cell r_.1.af] 0))
abbrev PU:Nat × TV:=(6,ahH r_)
abbrev Yi:Nat × TV:=(23,vD (k25 p))
abbrev Yr:Nat × TV:=(24,vI (p.af.length:Int))
end
def Fx (p:au) (r_:aD × (List Bool) × Int):(Int × Int)→St:=
  fun zz=>match zz with|(n,u0)=> ⟨[PU r_,(9,vI n),Yi p,Yr p,(25,vI u0)],[]⟩
section
variable (r_:aD × (List Bool) × Int) (n1:Int)
abbrev akv:St:=⟨[PU r_,(9,vI n1)],[]⟩
end
def EO (r_:aD × (List Bool) × Int):Int→St:=
  fun n1=>(akv r_ n1)
def O0 (p:au) (r_:aD × (List Bool) × Int):(aY (Int × Int) (Ex Int (Bool × Int)))→Exit→St→Prop:=
  LQ 0 [] (Fx p r_) (EO r_) AU
section
variable (p:au) (r_:aD × (List Bool) × Int)
abbrev aja:Nat × Option Ob:=(12,some (k50 p))
abbrev adR:List (Nat × Option Ob):=[aja p]
abbrev adN:List CV:=[.d (bJ none 1 (aT .i64) r_.1.ah),.d (bJ none 1 (aT .i64) r_.1.ai),.d (bJ none 2 aj.cell r_.1.af)]
abbrev agf:Ob:=(.cells 77 (adN r_))
end
theorem ED (p:au) (s_:aA) {r:Bool × Int} (h:mF p s_=some r):Fn Try.prog 34 (Ms p s_) [] (.jl [sB r.1,sI r.2]) []:=by
 refine fN tT Try.func34 rfl rfl fun B=> ?_
 show bR _ _ _ _ _ _ (AU r) _
 unfold mF at h
 refine sz tT ⟨[(2,vP 12 0),k10 s_],adR p⟩ {fr:=[(0,12),(1,13)] } [13] ?_
 refine aQ (bE h fun r_ hr_ h=> ?_)
 have q0:=rk [(0,14),(1,15),(2,16),(3,17),(4,18)] (ru p s_ hr_)
 refine ri tT ⟨[(2,vP 12 0),(6,vP 19 0),(8,vI r_.2.2)],[aja p,(19,some (agf r_))]⟩ [_,r_.1.ah.length=r_.1.ah.length,r_.1.ai.length=r_.1.ai.length,r_.1.af.length=r_.1.af.length] {an:=[(2,cA q0 [])],fr:=[(7,19)] } [14,15,16] ⟨q0,rfl,rfl,rfl,trivial⟩ (fz ⟨[(2,vP 12 0),PU r_,(8,vI r_.2.2)],adR p⟩ [19]) ?_
 refine aQ (sz tT ⟨[(2,vP 12 0),PU r_,(8,vI r_.2.2),(20,vB (!decide (r_.2.2=0)))],adR p⟩ {} [] ?_)
 refine bI h (fun hb1 h=> ?_) (fun hb1 h=> ?_)
 ·refine ct hb1 ?_
  refine sz tT ⟨[(4,vB false),(5,vI r_.2.2)],[]⟩ {} [] ?_
  refine aR ?_
  obtain rfl:=oi h
  exact rl [sB false,sI r_.2.2]
 ·refine cf hb1 ?_
  refine aP (sz tT ⟨[(2,vP 12 0),PU r_,(9,vI 0)],adR p⟩ {} [] ?_)
  refine aQ (sz tT ⟨[PU r_,(9,vI 0),Yi p,Yr p,(25,vI 0)],[]⟩ {} [] ?_)
  refine bE h fun y hy h=> ?_
  refine aL [] (Fx p r_) (EO r_) AU hy (fun s f h=> ?_) ?_
  ·clear hy
   show bR _ _ _ _ _ _ ((O0 p r_) f) _
   unfold rO at h
   obtain⟨n,u0⟩:=s
   refine sz tT ⟨[PU r_,(9,vI n),Yi p,Yr p,(25,vI u0),(26,k66 p u0)],[]⟩ {} [] ?_
   refine aQ ?_
   refine bI h (fun hb h=> ?_) (fun hb h=> ?_)
   ·refine ct hb ?_
    refine aP (aQ (aB (aQ (aO h fun a1 h=> ?_))))
    refine rg tT ⟨[PU r_,(9,vI n),(11,k68 p u0),Yi p,Yr p,(25,vI u0)],[]⟩ [_] {fr:=[(2,23)] } [23] ⟨a1,trivial⟩ ?_
    refine rz tT ⟨[PU r_,(9,vI (IntKind.wrap .i64 (n+(Yp p u0)))),Yi p,Yr p,(25,vI u0)],[]⟩ {} [] ?_
    refine rz tT ⟨[PU r_,(9,vI (IntKind.wrap .i64 (n+(Yp p u0)))),Yi p,Yr p,(25,k3 u0)],[]⟩ {} [] ?_
    obtain rfl:=oi h
    exact lN
   ·refine cf hb ?_
    refine aI (fz (akv r_ n) []) ?_
    refine aX ?_
    obtain rfl:=oi h
    exact lB
  ·clear hy
   cases y with
   |brk z=>
    obtain⟨n1,rfl⟩: ∃q,q=z:=⟨_,rfl⟩
    unfold dZ
    refine⟨_, .refl, ?_⟩
    refine aQ (bE h fun u1 hr_1 h=> ?_)
    have q0:=fK r_.1 hr_1
    refine rg tT ⟨[(4,vB (decide (u1=n1))),(5,vI 0)],[]⟩ [_] {an:=[(1,cA q0 [])] } [] ⟨q0,trivial⟩ ?_
    refine aR ?_
    obtain rfl:=oi h
    exact rl [sB (decide (u1=n1)),sI 0]
   |ret v=>
    obtain rfl:=oi h
    unfold dZ
    intro e st hn ha hR
    cases e with
    |normal=>exact absurd rfl hn
    |exit id=>exact hR
    |goto l=>exact hR
    |ret=>exact hR
    |panic c=>exact hR
    |outgrown=>exact hR
def rZ  :Bool→Exit→St→Prop:=
  fun r=>bL TT [.tmp 4] (vB r) []
section
variable (a:List aM) (b:List aM)
abbrev WL:Nat × TV:=(0,vD (bJ none 2 aM.cell a))
abbrev Xj:Nat × TV:=(1,vD (bJ none 2 aM.cell b))
end
def yV (a:List aM) (b:List aM):Int→St:=
  fun i=> ⟨[WL a,Xj b,(5,vI i)],[]⟩
def zf  :Unit→St:=
  fun _=> ⟨[],[]⟩
def H8 (a:List aM) (b:List aM):(aY Int (Ex Unit Bool))→Exit→St→Prop:=
  LQ 0 [] (yV a b) zf rZ
theorem qY (a:List aM) (b:List aM) {r:Bool} (h:jh a b=some r):Fn Try.prog 38 [sD (bJ none 2 aM.cell a),sD (bJ none 2 aM.cell b)] [] (vB r) []:=by
 refine fN tT Try.func38 rfl rfl fun B=> ?_
 show bR _ _ _ _ _ _ (rZ r) _
 unfold jh at h
 refine sz tT ⟨[WL a,Xj b],[]⟩ {} [] ?_
 refine aQ (sz tT ⟨[WL a,Xj b,(10,vB (!decide ((a.length:Int)=(b.length:Int))))],[]⟩ {} [] ?_)
 refine bI h (fun hb2 h=> ?_) (fun hb2 h=> ?_)
 ·refine ct hb2 ?_
  refine sz tT ⟨[(4,vB false)],[]⟩ {} [] ?_
  refine aR ?_
  obtain rfl:=oi h
  exact rl [sB false]
 ·refine cf hb2 ?_
  refine aP (aQ (sz tT ⟨[WL a,Xj b,(5,vI 0)],[]⟩ {} [] ?_))
  refine bE h fun y hy h=> ?_
  refine aL [] (yV a b) zf rZ hy (fun s f h=> ?_) ?_
  ·clear hy
   show bR _ _ _ _ _ _ ((H8 a b) f) _
   unfold jN at h
   obtain⟨i,rfl⟩: ∃q,q=s:=⟨_,rfl⟩
   refine aQ (sz tT ⟨[WL a,Xj b,(5,vI i),(14,vB (decide (i<(a.length:Int))))],[]⟩ {} [] ?_)
   refine bI h (fun hb1 h=> ?_) (fun hb1 h=> ?_)
   ·refine ct hb1 ?_
    refine aP (aQ (aB (aQ (aO h fun⟨a1,a2⟩ h=> ?_))))
    refine dg tT mX ⟨[WL a,Xj b,(5,vI i),(25,vB (!((decide (((at' a i.toNat).kind)=((at' b i.toNat).kind))) && ((decide (((at' a i.toNat).index)=((at' b i.toNat).index))) && true))))],[]⟩ [_,_] {} [] ⟨a1,a2,trivial⟩ ?_
    refine bI h (fun hb h=> ?_) (fun hb h=> ?_)
    ·refine ct hb ?_
     refine sz tT ⟨[(4,vB false)],[]⟩ {} [] ?_
     refine aR ?_
     obtain rfl:=oi h
     exact lR dw (dm 0) dz (bL.mk (.inr rfl) (p:=[]) (l:=[sB false]) (by kernel_rfl) trivial (eB.refl _) trivial)
    ·refine cf hb ?_
     refine aP (rz tT ⟨[WL a,Xj b,k2 i],[]⟩ {} [] ?_)
     obtain rfl:=oi h
     exact lN
   ·refine cf hb1 ?_
    refine aI (fz ⟨[],[]⟩ []) ?_
    refine aX ?_
    obtain rfl:=oi h
    exact lB
  ·clear hy
   cases y with
   |brk z=>
    unfold dZ
    refine⟨_, .refl, ?_⟩
    refine sz tT ⟨[(4,vB true)],[]⟩ {} [] ?_
    refine aR ?_
    obtain rfl:=oi h
    exact rl [sB true]
   |ret v=>
    obtain rfl:=oi h
    unfold dZ
    intro e st hn ha hR
    cases e with
    |normal=>exact absurd rfl hn
    |exit id=>exact hR
    |goto l=>exact hR
    |ret=>exact hR
    |panic c=>exact hR
    |outgrown=>exact hR
noncomputable def fE:qN:=⟨[45,46],MV ([1,1,1,1,1,0,1,0]++[0]) (qg Try.f45),MV ([1,1,1,1,1,0,1,0]++[1]) (qg Try.f45),51,[]⟩
abbrev YG:Nat × Option Ob:=(0,some (.loop fE 0 [(11,vP 1 0)]))
def Dj  :Int→Exit→St→Prop:=
  fun r=>qb 0 fE (vB true) [YG,(1,some (.cells 3 [cI r]))]
section
variable (u1:Int)
abbrev mU:List (Nat × Option Ob):=[YG,(1,some (.cells 3 [cI u1]))]
end
theorem l9 (u2:Int) (u3:Int) (u0:Int) (u1:Int) {r:Int} (h:iX u2 u3 u0 u1=some r):Yl Try.prog 0 [.agg [cI u2,cI u3],sI u0] (mU u1) (vB true) [YG,(1,some (.cells 3 [cI r]))]:=by
 refine Jh (r:=fE) (sl:=[(11,vP 1 0)]) (sl1:=[(11,vP 1 0),(13,vI u0)]) (h1:=(mU u1)) (sl2:=[(11,vP 1 0)]) (by kernel_rfl) rfl rfl (by kernel_rfl) (fun rd B=> ?_) (by kernel_rfl) (fun rd B=> ?_)
 ·refine vR (c:=MV ([1,1,1,1,1,0,1,0]++[0]) (qg Try.f45)) rfl ?_
  refine rA (st:=⟨[(45,.v (.agg [cI u2,cI u3])),(46,vI u0),(11,vP 1 0)],mU u1⟩) (by kernel_rfl) ?_
  refine rz tT ⟨[(11,vP 1 0),(13,vI u0)],mU u1⟩ {} [] ?_
  exact⟨rfl,rfl⟩
 ·refine vR (c:=MV ([1,1,1,1,1,0,1,0]++[1]) (qg Try.f45)) rfl ?_
  refine rA (st:=⟨[(11,vP 1 0),(13,vI u0)],[(0,some (.loop fE 1 [(11,vP 1 0)])),(1,some (.cells 3 [cI u1]))]⟩) (by kernel_rfl) ?_
  show bR _ _ _ _ _ _ (Dj r) _
  unfold iX at h
  refine aB (rz tT ⟨[],[(0,some (.loop fE 1 [(11,vP 1 0)])),(1,some (.cells 3 [cI (IntKind.wrap .i64 (u1+u0))]))]⟩ {} [] ?_)
  obtain rfl:=oi h
  exact qb.on (sl:=[(11,vP 1 0)]) (by kernel_rfl) (Cw (by kernel_rfl)) (eB.refl _)
def eX  :Int→Exit→St→Prop:=
  fun r=>bL TT [] (.jl []) [YG,(1,some (.cells 3 [cI r]))]
def tH (x1:Int) (u0:List ay) (u1:List aH) (u2:List aK) (x2:List Bool) (u3:List Bool) (u4:List Bool) (u5:List Bool) (u6:List Bool) (u7:List Bool) (u8:List Bool) (x3:List Bool) (v1:Int):(Int × Int)→St:=
  fun zz=>match zz with|(u9,v0)=> ⟨anp x2 u3 u4 u5 u6 u7 u8 x3 u0 x1 u1 u2 v0,mU u9⟩
section
variable (x1:Int) (u0:List ay) (u1:List aH) (u2:List aK) (x2:List Bool) (u3:List Bool) (u4:List Bool) (u5:List Bool) (u6:List Bool) (u7:List Bool) (u8:List Bool) (x3:List Bool) (u9:Int)
abbrev amk:St:=⟨aiM x1 u0 u1 u2 x2 u3 u4 u5 u6 u7 u8 x3,mU u9⟩
end
def tJ (x1:Int) (u0:List ay) (u1:List aH) (u2:List aK) (x2:List Bool) (u3:List Bool) (u4:List Bool) (u5:List Bool) (u6:List Bool) (u7:List Bool) (u8:List Bool) (x3:List Bool) (v0:Int):Int→St:=
  fun u9=>(amk x1 u0 u1 u2 x2 u3 u4 u5 u6 u7 u8 x3 u9)
def Df (x1:Int) (u0:List ay) (u1:List aH) (u2:List aK) (x2:List Bool) (u3:List Bool) (u4:List Bool) (u5:List Bool) (u6:List Bool) (u7:List Bool) (u8:List Bool) (x3:List Bool) (u9:Int):(aY (Int × Int) (Ex Int Int))→Exit→St→Prop:=
  LQ 0 [] (tH x1 u0 u1 u2 x2 u3 u4 u5 u6 u7 u8 x3 u9) (tJ x1 u0 u1 u2 x2 u3 u4 u5 u6 u7 u8 x3 u9) eX
def tq (x1:Int) (u1:List ay) (u0:List aH) (u2:List aK) (x2:List Bool) (u3:List Bool) (u4:List Bool) (u5:List Bool) (u6:List Bool) (u7:List Bool) (u8:List Bool) (x3:List Bool) (v1:Int):(Int × Int)→St:=
  fun zz=>match zz with|(u9,v0)=> ⟨akQ u0 x1 u1 u2 x2 u3 u4 u5 u6 u7 u8 x3 v0,mU u9⟩
section
variable (x1:Int) (u0:List ay) (u1:List aH) (u2:List aK) (x3:List Bool) (u3:Int)
abbrev amn:St:=⟨ajp x1 u0 u1 u2 x3,mU u3⟩
end
def sF (x1:Int) (u0:List ay) (u1:List aH) (u2:List aK) (x3:List Bool) (u4:Int):Int→St:=
  fun u3=>(amn x1 u0 u1 u2 x3 u3)
def Di (x1:Int) (u0:List ay) (u1:List aH) (u2:List aK) (x2:List Bool) (u4:List Bool) (u5:List Bool) (u6:List Bool) (u7:List Bool) (u8:List Bool) (u9:List Bool) (x3:List Bool) (u3:Int):(aY (Int × Int) (Ex Int Int))→Exit→St→Prop:=
  LQ 2 [] (tq x1 u0 u1 u2 x2 u4 u5 u6 u7 u8 u9 x3 u3) (sF x1 u0 u1 u2 x3 u3) eX
def rT (u0:List aK) (x3:List Bool):(Int × Int)→St:=
  fun zz=>match zz with|(u1,u2)=> ⟨ajJ u0 x3 u2,mU u1⟩
def sU  :Int→St:=
  fun o1105=> ⟨[],[YG,(1,some (.cells 3 [cI o1105]))]⟩
def CB (u0:List aK) (x3:List Bool):(aY (Int × Int) (Ex Int Int))→Exit→St→Prop:=
  LQ 4 [] (rT u0 x3) sU eX
section
variable (x1:Int) (u1:List ay) (u0:List aH) (u2:List aK) (x2:List Bool) (u7:List Bool) (u8:List Bool) (u9:List Bool) (v0:List Bool) (v1:List Bool) (v2:List Bool) (x3:List Bool) (u4:Int) (r_:Bool) (v8:Int) (u3:Int) (u5:Bool) (v9:Int) (u6:Int) (v3:Bool) (w0:Int)
abbrev alK:St:=⟨agZ x1 u1 u0 u2 x2 u7 u8 u9 v0 v1 v2 x3 u4 r_,mU v8⟩
abbrev amF:St:=⟨ahi x1 u1 u0 u2 x2 u7 u8 u9 v0 v1 v2 x3 u4,mU v8⟩
abbrev aiZ:St:=⟨ahx x1 u1 u0 u2 x2 u7 u8 u9 v0 v1 v2 x3 u4,mU v8⟩
abbrev akH:St:=⟨afO x1 u1 u0 u2 x2 u7 u8 u9 v0 v1 v2 x3 u3 u5,mU v9⟩
abbrev akA:St:=⟨ag5 x1 u1 u0 u2 x2 u7 u8 u9 v0 v1 v2 x3 u3,mU v9⟩
abbrev aj7:St:=⟨aik x1 u1 u0 u2 x2 u7 u8 u9 v0 v1 v2 x3 u3,mU v9⟩
abbrev am3:St:=⟨aht u2 x3 u6 v3,mU w0⟩
abbrev aiD:St:=⟨ag2 u2 x3 u6,mU w0⟩
abbrev aiP:St:=⟨ah8 u2 x3 u6,mU w0⟩
end
theorem Dg (x1:Int) (u1:List ay) (u0:List aH) (u2:List aK) (x2:List Bool) (u7:List Bool) (u8:List Bool) (u9:List Bool) (v0:List Bool) (v1:List Bool) (v2:List Bool) (x3:List Bool) (v4:Int) {r:Int} (h:qj x1 u1 u0 u2 x2 u7 u8 u9 v0 v1 v2 x3 v4=some r):Fn Try.prog 124 (amj x1 u1 u0 u2 x2 u7 u8 u9 v0 v1 v2 x3) (mU v4) (.jl []) [YG,(1,some (.cells 3 [cI r]))]:=by
 refine fN tT Try.func124 rfl rfl fun B=> ?_
 show bR _ _ _ _ _ _ (eX r) _
 unfold qj at h
 refine aQ (sz tT ⟨aeb x1 u1 u0 u2 x2 u7 u8 u9 v0 v1 v2 x3,mU v4⟩ {} [] ?_)
 refine bE h fun y hy h=> ?_
 refine aL [] (tH x1 u1 u0 u2 x2 u7 u8 u9 v0 v1 v2 x3 v4) (tJ x1 u1 u0 u2 x2 u7 u8 u9 v0 v1 v2 x3 v4) eX hy (fun s f h=> ?_) ?_
 ·clear hy
  show bR _ _ _ _ _ _ ((Df x1 u1 u0 u2 x2 u7 u8 u9 v0 v1 v2 x3 v4) f) _
  unfold sW at h
  obtain⟨v6,u4⟩:=s
  refine sz tT ⟨ajW x1 u1 u0 u2 x2 u7 u8 u9 v0 v1 v2 x3 u4,mU v6⟩ {} [] ?_
  refine aQ ?_
  refine bI h (fun hb1 h=> ?_) (fun hb1 h=> ?_)
  ·refine ct hb1 ?_
   refine aP (aQ (aB (aQ (aO h fun a1 h=> ?_))))
   refine rg tT ⟨akK x1 u1 u0 u2 x2 u7 u8 u9 v0 v1 v2 x3 u4,mU v6⟩ [_] {fr:=[(3,17)] } [17] ⟨a1,trivial⟩ ?_
   refine aQ (bE h fun r_ hr_ h=> ?_)
   refine bI h (fun hb h=> ?_) (fun hb h=> ?_)
   ·skip
    refine bE h fun v8 hr_1 h=> ?_
    refine aO h fun a1 h=> ?_
    have q0:=iB (⟨x1,u1,u0,u2⟩:au) (⟨x2,u7,u8,u9,v0,v1,v2⟩:aA) u4 hr_
    refine ri tT (alK x1 u1 u0 u2 x2 u7 u8 u9 v0 v1 v2 x3 u4 r_ v8) (_::(eqs r_ 4 ((am4 u1 x3 u4 r_)::(eqs r_ 3 [(vZ u1 x3 u4 r_)=true,(vZ u1 x3 u4 r_)=true,(vZ u1 x3 u4 r_)=true,(vZ u1 x3 u4 r_)=true,(vZ u1 x3 u4 r_)=true,(vZ u1 x3 u4 r_)=true,gP (gY [(4,r_),(12,true)]) [(12,true)]→All [Yl Try.prog 0 [.agg [cI 2,cI u4],sI ((at' u1 u4.toNat).aV)] (mU v6) (vB true) (mU v8)],gP (gY [(4,r_),(12,true)]) [(12,true)],(vZ u1 x3 u4 r_)=true,(vZ u1 x3 u4 r_)=true])))) {yb:=[(4,r_),(12,true)],an:=[(3,cA q0 []),(18, .call [0,1] (vB true) (mU v8))] } [] ⟨q0,ae ⟨(fun hg=> ⟨a1 (bC hg),trivial⟩),ae ⟨hb,hb,hb,hb,hb,hb,(fun hg=> ⟨l9 2 u4 ((at' u1 u4.toNat).aV) v6 hr_1,trivial⟩),⟨rfl,trivial⟩,hb,hb,trivial⟩⟩⟩ (cO.le (st':=(amF x1 u1 u0 u2 x2 u7 u8 u9 v0 v1 v2 x3 u4 v8)) ⟨⟨tR,tR,tR,tR,tR,tR,tR,⟨_,rfl,eB.v (fG.one (eZ.of (congrArg (fun b=>CV.d (.bool b)) (Gz hb))))⟩,trivial⟩,.refl _⟩) ?_
    refine cn (aP (rz tT (aiZ x1 u1 u0 u2 x2 u7 u8 u9 v0 v1 v2 x3 u4 v8) {} [] ?_))
    obtain rfl:=oi h
    exact lN
   ·skip
    refine aO h fun a1 h=> ?_
    have q0:=iB (⟨x1,u1,u0,u2⟩:au) (⟨x2,u7,u8,u9,v0,v1,v2⟩:aA) u4 hr_
    refine ri tT (alK x1 u1 u0 u2 x2 u7 u8 u9 v0 v1 v2 x3 u4 r_ v6) (_::(aiz u1 x3 u4 r_)) {yb:=[(4,r_),(12,false)],an:=[(3,cA q0 []),(13, .skip),(14, .skip),(15, .skip),(16, .skip),(17, .skip),(18, .skip),(19, .skip)] } [] ⟨q0,ae ⟨(fun hg=> ⟨a1 (bC hg),trivial⟩),ae ⟨hb,(fun h=>Bool.noConfusion (show false=true from h.1)),hb,(fun h=>Bool.noConfusion (show false=true from h.1)),hb,(fun h=>Bool.noConfusion (show false=true from h.1)),hb,(fun h=>Bool.noConfusion (show false=true from h.1)),hb,(fun h=>Bool.noConfusion (show false=true from h.1)),hb,(fun h=>Bool.noConfusion (show false=true from h.1)),hb,(fun h=>Bool.noConfusion (show false=true from h.1)),hb,trivial⟩⟩⟩ (cO.le (st':=(amF x1 u1 u0 u2 x2 u7 u8 u9 v0 v1 v2 x3 u4 v6)) ⟨⟨tR,tR,tR,tR,tR,tR,tR,⟨_,rfl,eB.v (fG.one (eZ.of (congrArg (fun b=>CV.d (.bool b)) (FV hb))))⟩,trivial⟩,.refl _⟩) ?_
    refine cn (aP (rz tT (aiZ x1 u1 u0 u2 x2 u7 u8 u9 v0 v1 v2 x3 u4 v6) {} [] ?_))
    obtain rfl:=oi h
    exact lN
  ·refine cf hb1 ?_
   refine aI (fz (amk x1 u1 u0 u2 x2 u7 u8 u9 v0 v1 v2 x3 v6) []) ?_
   refine aX ?_
   obtain rfl:=oi h
   exact lB
 ·clear hy
  cases y with
  |brk z=>
   obtain⟨w1,rfl⟩: ∃q,q=z:=⟨_,rfl⟩
   unfold dZ
   refine⟨_, .refl, ?_⟩
   refine aQ (sz tT ⟨amK x1 u1 u0 u2 x2 u7 u8 u9 v0 v1 v2 x3,mU w1⟩ {} [] ?_)
   refine bE h fun y1 hy h=> ?_
   refine aL [] (tq x1 u1 u0 u2 x2 u7 u8 u9 v0 v1 v2 x3 v4) (sF x1 u1 u0 u2 x3 v4) eX hy (fun s f h=> ?_) ?_
   ·clear hy
    show bR _ _ _ _ _ _ ((Di x1 u1 u0 u2 x2 u7 u8 u9 v0 v1 v2 x3 v4) f) _
    unfold su at h
    obtain⟨v7,u3⟩:=s
    refine sz tT ⟨amL x1 u1 u0 u2 x2 u7 u8 u9 v0 v1 v2 x3 u3,mU v7⟩ {} [] ?_
    refine aQ ?_
    refine bI h (fun hb3 h=> ?_) (fun hb3 h=> ?_)
    ·refine ct hb3 ?_
     refine aP (aQ (aB (aQ (aO h fun a1 h=> ?_))))
     refine rg tT ⟨ana x1 u1 u0 u2 x2 u7 u8 u9 v0 v1 v2 x3 u3,mU v7⟩ [_] {fr:=[(3,21)] } [21] ⟨a1,trivial⟩ ?_
     refine aQ (bE h fun u5 hr_2 h=> ?_)
     refine bI h (fun hb2 h=> ?_) (fun hb2 h=> ?_)
     ·skip
      refine bE h fun v9 hr_3 h=> ?_
      refine aO h fun⟨a1,a2⟩ h=> ?_
      have q0:=fA (⟨x1,u1,u0,u2⟩:au) (⟨x2,u7,u8,u9,v0,v1,v2⟩:aA) u3 hr_2
      refine di tT mX (akH x1 u1 u0 u2 x2 u7 u8 u9 v0 v1 v2 x3 u3 u5 v9) (_::(eqs u5 4 ((ajU u0 x3 u3 u5)::(eqs u5 5 ((ajd u0 x3 u3 u5)::(eqs u5 3 [(vY u0 x3 u3 u5)=true,(vY u0 x3 u3 u5)=true,(vY u0 x3 u3 u5)=true,(vY u0 x3 u3 u5)=true,(vY u0 x3 u3 u5)=true,(vY u0 x3 u3 u5)=true,gP (Y1 u5) [(17,true)]→All [Yl Try.prog 0 [.agg [cI 3,cI u3],sI ((at' u0 u3.toNat).most)] (mU v7) (vB true) (mU v9)],gP (Y1 u5) [(17,true)],(vY u0 x3 u3 u5)=true,(vY u0 x3 u3 u5)=true])))))) {yb:=[(4,u5),(17,true)],an:=[(3,cA q0 []),(23, .call [0,1] (vB true) (mU v9))] } [] ⟨q0,ae ⟨(fun hg=> ⟨a1 (bC hg),trivial⟩),ae ⟨(fun hg=> ⟨a2 (bC hg),trivial⟩),ae ⟨hb2,hb2,hb2,hb2,hb2,hb2,(fun hg=> ⟨l9 3 u3 ((at' u0 u3.toNat).most) v7 hr_3,trivial⟩),⟨rfl,trivial⟩,hb2,hb2,trivial⟩⟩⟩⟩ (cO.le (st':=(akA x1 u1 u0 u2 x2 u7 u8 u9 v0 v1 v2 x3 u3 v9)) ⟨⟨tR,tR,tR,tR,tR,tR,tR,⟨_,rfl,eB.v (fG.one (eZ.of (congrArg (fun b=>CV.d (.bool b)) (Gz hb2))))⟩,trivial⟩,.refl _⟩) ?_
      refine cn (aP (rz tT (aj7 x1 u1 u0 u2 x2 u7 u8 u9 v0 v1 v2 x3 u3 v9) {} [] ?_))
      obtain rfl:=oi h
      exact lN
     ·skip
      refine aO h fun⟨a1,a2⟩ h=> ?_
      have q0:=fA (⟨x1,u1,u0,u2⟩:au) (⟨x2,u7,u8,u9,v0,v1,v2⟩:aA) u3 hr_2
      refine di tT mX (akH x1 u1 u0 u2 x2 u7 u8 u9 v0 v1 v2 x3 u3 u5 v7) (_::(aj4 u0 x3 u3 u5)) {yb:=[(4,u5),(17,false)],an:=[(3,cA q0 []),(18, .skip),(19, .skip),(20, .skip),(21, .skip),(22, .skip),(23, .skip),(24, .skip)] } [] ⟨q0,ae ⟨(fun hg=> ⟨a1 (bC hg),trivial⟩),ae ⟨(fun hg=> ⟨a2 (bC hg),trivial⟩),ae ⟨hb2,(fun h=>Bool.noConfusion (show false=true from h.1)),hb2,(fun h=>Bool.noConfusion (show false=true from h.1)),hb2,(fun h=>Bool.noConfusion (show false=true from h.1)),hb2,(fun h=>Bool.noConfusion (show false=true from h.1)),hb2,(fun h=>Bool.noConfusion (show false=true from h.1)),hb2,(fun h=>Bool.noConfusion (show false=true from h.1)),hb2,(fun h=>Bool.noConfusion (show false=true from h.1)),hb2,trivial⟩⟩⟩⟩ (cO.le (st':=(akA x1 u1 u0 u2 x2 u7 u8 u9 v0 v1 v2 x3 u3 v7)) ⟨⟨tR,tR,tR,tR,tR,tR,tR,⟨_,rfl,eB.v (fG.one (eZ.of (congrArg (fun b=>CV.d (.bool b)) (FV hb2))))⟩,trivial⟩,.refl _⟩) ?_
      refine cn (aP (rz tT (aj7 x1 u1 u0 u2 x2 u7 u8 u9 v0 v1 v2 x3 u3 v7) {} [] ?_))
      obtain rfl:=oi h
      exact lN
    ·refine cf hb3 ?_
     refine aI (fz (amn x1 u1 u0 u2 x3 v7) []) ?_
     refine aX ?_
     obtain rfl:=oi h
     exact lB
   ·clear hy
    cases y1 with
    |brk z=>
     obtain⟨w2,rfl⟩: ∃q,q=z:=⟨_,rfl⟩
     unfold dZ
     refine⟨_, .refl, ?_⟩
     refine sz tT ⟨ai0 u2 x3,mU w2⟩ {} [] ?_
     refine bE h fun y2 hy h=> ?_
     refine aL [] (rT u2 x3) sU eX hy (fun s f h=> ?_) ?_
     ·clear hy
      show bR _ _ _ _ _ _ ((CB u2 x3) f) _
      unfold rM at h
      obtain⟨v5,u6⟩:=s
      refine sz tT ⟨akk u2 x3 u6,mU v5⟩ {} [] ?_
      refine aQ ?_
      refine bI h (fun hb5 h=> ?_) (fun hb5 h=> ?_)
      ·refine ct hb5 ?_
       refine aP (aQ (aB (aQ (aO h fun a1 h=> ?_))))
       refine rg tT ⟨amX u2 x3 u6,mU v5⟩ [_] {fr:=[(3,25)] } [25] ⟨a1,trivial⟩ ?_
       refine aQ (bE h fun v3 hr_4 h=> ?_)
       refine rg tT ⟨anw u2 x3 u6 v3,mU v5⟩ [Fn Try.prog 67 [sD (.sl (some true) 1 [(Bj u2 u6).e0,(Bj u2 u6).e1].length (fun i j=>((ag0 u2 u6).getD (0+(0+(i*1+j))) .nilp))),sD (.fn 125 1 (YC x3))] [] (vB v3) []] {an:=[(3, .call [] (vB v3) [])] } [] ⟨Fn.leH (args:=(akS u2 x3 u6)) (hin:=[]) (mE [(Bj u2 u6).e0,(Bj u2 u6).e1] x3 hr_4) ⟨fG.one (eZ.d (iM.sl (.inl rfl) (by intro i hi j hj;match i,j,hi,hj with|0,0,_,_=>exact .refl _|1,0,_,_=>exact .refl _))),fG.refl _,trivial⟩ trivial,trivial⟩ ?_
       refine aQ ?_
       refine bI h (fun hb4 h=> ?_) (fun hb4 h=> ?_)
       ·skip
        refine bE h fun w0 hr_5 h=> ?_
        refine ri tT (am3 u2 x3 u6 v3 w0) [v3=true,v3=true,v3=true,v3=true,v3=true,v3=true,gP (gY [(1,true)]) [(1,true)]→All [Yl Try.prog 0 [.agg [cI 0,cI u6],sI ((at' u2 u6.toNat).aV)] (mU v5) (vB true) (mU w0)],gP (gY [(1,true)]) [(1,true)],v3=true,v3=true] {yb:=[(1,true)],an:=[(7, .call [0,1] (vB true) (mU w0))] } [] ⟨hb4,hb4,hb4,hb4,hb4,hb4,(fun hg=> ⟨l9 0 u6 ((at' u2 u6.toNat).aV) v5 hr_5,trivial⟩),⟨rfl,trivial⟩,hb4,hb4,trivial⟩ (cO.le (st':=(aiD u2 x3 u6 w0)) ⟨⟨tR,tR,tR,tR,tR,⟨_,rfl,eB.v (fG.one (eZ.of (congrArg (fun b=>CV.d (.bool b)) (Gz hb4))))⟩,trivial⟩,.refl _⟩) ?_
        refine cn (aP (rz tT (aiP u2 x3 u6 w0) {} [] ?_))
        obtain rfl:=oi h
        exact lN
       ·skip
        refine ri tT (am3 u2 x3 u6 v3 v5) [v3=false, ¬ gP (gY [(1,false)]) [(1,true)],v3=false, ¬ gP (gY [(1,false)]) [(1,true)],v3=false, ¬ gP (gY [(1,false)]) [(1,true)],v3=false, ¬ gP (gY [(1,false)]) [(1,true)],v3=false, ¬ gP (gY [(1,false)]) [(1,true)],v3=false, ¬ gP (gY [(1,false)]) [(1,true)],v3=false, ¬ gP (gY [(1,false)]) [(1,true)],v3=false] {yb:=[(1,false)],an:=[(2, .skip),(3, .skip),(4, .skip),(5, .skip),(6, .skip),(7, .skip),(8, .skip)] } [] ⟨hb4,(fun h=>Bool.noConfusion (show false=true from h.1)),hb4,(fun h=>Bool.noConfusion (show false=true from h.1)),hb4,(fun h=>Bool.noConfusion (show false=true from h.1)),hb4,(fun h=>Bool.noConfusion (show false=true from h.1)),hb4,(fun h=>Bool.noConfusion (show false=true from h.1)),hb4,(fun h=>Bool.noConfusion (show false=true from h.1)),hb4,(fun h=>Bool.noConfusion (show false=true from h.1)),hb4,trivial⟩ (cO.le (st':=(aiD u2 x3 u6 v5)) ⟨⟨tR,tR,tR,tR,tR,⟨_,rfl,eB.v (fG.one (eZ.of (congrArg (fun b=>CV.d (.bool b)) (FV hb4))))⟩,trivial⟩,.refl _⟩) ?_
        refine cn (aP (rz tT (aiP u2 x3 u6 v5) {} [] ?_))
        obtain rfl:=oi h
        exact lN
      ·refine cf hb5 ?_
       refine aI (fz ⟨[],mU v5⟩ []) ?_
       refine aX ?_
       obtain rfl:=oi h
       exact lB
     ·clear hy
      cases y2 with
      |brk z=>
       obtain⟨o1105,rfl⟩: ∃q,q=z:=⟨_,rfl⟩
       unfold dZ
       refine⟨_, .refl, ?_⟩
       obtain rfl:=oi h
       exact bL.mk (.inl rfl) (p:=[]) (l:=[]) (by kernel_rfl) trivial (eB.refl _) (.refl _)
      |ret v=>
       obtain rfl:=oi h
       unfold dZ
       intro e st hn ha hR
       cases e with
       |normal=>exact absurd rfl hn
       |exit id=>exact hR
       |goto l=>exact hR
       |ret=>exact hR
       |panic c=>exact hR
       |outgrown=>exact hR
    |ret v=>
     obtain rfl:=oi h
     unfold dZ
     intro e st hn ha hR
     cases e with
     |normal=>exact absurd rfl hn
     |exit id=>exact hR
     |goto l=>exact hR
     |ret=>exact hR
     |panic c=>exact hR
     |outgrown=>exact hR
  |ret v=>
   obtain rfl:=oi h
   unfold dZ
   intro e st hn ha hR
   cases e with
   |normal=>exact absurd rfl hn
   |exit id=>exact hR
   |goto l=>exact hR
   |ret=>exact hR
   |panic c=>exact hR
   |outgrown=>exact hR
def sG  :(Int × Int)→Exit→St→Prop:=
  fun r=>bL TT [.tmp 6, .tmp 7] (.jl [sI r.1,sI r.2]) []
section
variable (u0:List Bool)
abbrev oO:Nat × TV:=(2,vD (bJ none 1 aF u0))
abbrev YE:Nat × TV:=(25,vD (bJ none 1 aF u0))
abbrev Zl:Nat × TV:=(26,vI (u0.length:Int))
end
def yt (p:au) (s_:aA) (u0:List Bool):Int→St:=
  fun u1=> ⟨[oO u0,bg p,bG s_,YE u0,Zl u0,(27,vI u1)],[]⟩
section
variable (u0:List Bool) (p:au) (s_:aA)
abbrev aem:St:=⟨[oO u0,bg p,bG s_],[]⟩
end
def zw (p:au) (s_:aA) (u0:List Bool):Unit→St:=
  fun _=>(aem u0 p s_)
def HV (p:au) (s_:aA) (u0:List Bool):(aY Int (Ex Unit (Int × Int)))→Exit→St→Prop:=
  LQ 0 [] (yt p s_ u0) (zw p s_ u0) sG
section
variable (u0:Int × (List ay) × (List aH) × (List aK) × (List Bool) × (List Bool) × (List Bool) × (List Bool) × (List Bool) × (List Bool) × (List Bool) × (List Bool))
abbrev alS:List (Nat × TV):=[(11,vP 6 0),(44,adm u0)]
end
theorem zA (p:au) (s_:aA) (u1:List Bool) {r:Int × Int} (h:qQ p s_ u1=some r):Fn Try.prog 45 (aie p s_ u1) [] (.jl [sI r.1,sI r.2]) []:=by
 refine fN tT Try.func45 rfl rfl fun B=> ?_
 show bR _ _ _ _ _ _ (sG r) _
 unfold qQ at h
 refine sz tT (aem u1 p s_) {fr:=[(0,4),(1,5)] } [4,5] ?_
 refine aQ (aQ (bE h fun r_ hr_ h=> ?_))
 have q0:=iD p s_ hr_
 refine rg tT ⟨[oO u1,bg p,bG s_,(8,vI r_)],[]⟩ [_] {an:=[(2,cA q0 [])] } [] ⟨q0,trivial⟩ ?_
 refine sz tT ⟨[oO u1,bg p,bG s_,(8,vI r_),(18,vB (!decide (r_=0)))],[]⟩ {} [] ?_
 refine bI h (fun hb3 h=> ?_) (fun hb3 h=> ?_)
 ·refine ct hb3 ?_
  refine sz tT ⟨[(6,vI 0),(7,vI r_)],[]⟩ {} [] ?_
  refine aR ?_
  obtain rfl:=oi h
  exact rl [sI 0,sI r_]
 ·refine cf hb3 ?_
  refine aP (aQ (sz tT ⟨[oO u1,bg p,bG s_,(24,vB (!decide ((u1.length:Int)=p.ax)))],[]⟩ {} [] ?_))
  refine bI h (fun hb2 h=> ?_) (fun hb2 h=> ?_)
  ·refine ct hb2 ?_
   refine sz tT ⟨[(6,vI 0),(7,vI 1)],[]⟩ {} [] ?_
   refine aR ?_
   obtain rfl:=oi h
   exact rl [sI 0,sI 1]
  ·refine cf hb2 ?_
   refine aP (aQ (sz tT ⟨[oO u1,bg p,bG s_,YE u1,Zl u1,(27,vI 0)],[]⟩ {} [] ?_))
   refine bE h fun y hy h=> ?_
   refine aL [] (yt p s_ u1) (zw p s_ u1) sG hy (fun s f h=> ?_) ?_
   ·clear hy
    show bR _ _ _ _ _ _ ((HV p s_ u1) f) _
    unfold zq at h
    obtain⟨u2,rfl⟩: ∃q,q=s:=⟨_,rfl⟩
    refine sz tT ⟨[oO u1,bg p,bG s_,YE u1,Zl u1,(27,vI u2),(28,vB (decide (u2<(u1.length:Int))))],[]⟩ {} [] ?_
    refine aQ ?_
    refine bI h (fun hb1 h=> ?_) (fun hb1 h=> ?_)
    ·refine ct hb1 ?_
     refine aP (aQ (aB (aQ (aO h fun a1 h=> ?_))))
     refine rg tT ⟨[oO u1,bg p,bG s_,(9,vI u2),(10,vB (at' u1 u2.toNat)),YE u1,Zl u1,(27,vI u2)],[]⟩ [_] {} [] ⟨a1,trivial⟩ ?_
     refine aQ (aO h fun a1 h=> ?_)
     refine rg tT ⟨[oO u1,bg p,bG s_,YE u1,Zl u1,(27,vI u2),(39,vB (bif (at' u1 u2.toNat)then(at' s_.aW u2.toNat)else false))],[]⟩ (eqs (at' u1 u2.toNat) 4 ((gP (gY [(1,at' u1 u2.toNat)]) [(1,true)]→All [(0:Int)≤u2∧u2<(s_.aW.length:Int)])::(eqs (at' u1 u2.toNat) 2 []))) {yb:=[(1,at' u1 u2.toNat)] } [] (ae ⟨(fun hg=> ⟨a1 (bC hg),trivial⟩),ae trivial⟩) ?_
     refine bI h (fun hb h=> ?_) (fun hb h=> ?_)
     ·refine ct hb ?_
      refine sz tT ⟨[(6,vI 0),(7,vI 1)],[]⟩ {} [] ?_
      refine aR ?_
      obtain rfl:=oi h
      exact lR dw (dm 0) dz (bL.mk (.inr rfl) (p:=[]) (l:=[sI 0,sI 1]) (by kernel_rfl) trivial (eB.refl _) trivial)
     ·refine cf hb ?_
      refine aP (rz tT ⟨[oO u1,bg p,bG s_,YE u1,Zl u1,(27,k3 u2)],[]⟩ {} [] ?_)
      obtain rfl:=oi h
      exact lN
    ·refine cf hb1 ?_
     refine aI (fz (aem u1 p s_) []) ?_
     refine aX ?_
     obtain rfl:=oi h
     exact lB
   ·clear hy
    cases y with
    |brk z=>
     unfold dZ
     refine⟨_, .refl, ?_⟩
     refine sz tT ⟨[oO u1,bg p,bG s_,(11,vP 6 0)],[(6,some (.cells 3 [cI 0]))]⟩ {fr:=[(0,6)] } [] ?_
     refine aQ (aQ (bE h fun u0 hr_1 h=> ?_))
     have q0:=Af p s_ u1 hr_1
     refine rg tT ⟨alS u0,[(6,some (.cells 3 [cI 0]))]⟩ [_] {an:=[(3,cA q0 [])] } [] ⟨q0,trivial⟩ ?_
     refine aB (bE h fun u3 hr_2 h=> ?_)
     refine mg 7 [(11,vP 6 0)] [] [7,6] (.jl []) [(7,some (.loop fE 0 [(11,vP 6 0)])),(6,some (.cells 3 [cI u3]))] (adm u0) 124 [] (ajk u0) [(7,some (.loop fE 0 [(11,vP 6 0)])),(6,some (.cells 3 [cI 0]))] [.one (.yl 7),sD (ac7 u0),sD (ac3 u0),sD (ad5 u0)] fE 0 [(11,vP 6 0)] (by kernel_rfl) (by kernel_rfl) (by kernel_rfl) (by kernel_rfl) (by kernel_rfl) (by kernel_rfl) (by kernel_rfl) (rK [(0,7),(1,6)] (Dg u0.1 u0.2.1 u0.2.2.1 u0.2.2.2.1 u0.2.2.2.2.1 u0.2.2.2.2.2.1 u0.2.2.2.2.2.2.1 u0.2.2.2.2.2.2.2.1 u0.2.2.2.2.2.2.2.2.1 u0.2.2.2.2.2.2.2.2.2.1 u0.2.2.2.2.2.2.2.2.2.2.1 u0.2.2.2.2.2.2.2.2.2.2.2 0 hr_2)) (by kernel_rfl) rfl (IG.zero rfl) (cO.fin (st':=⟨alS u0,[(6,some (.cells 3 [cI u3]))]⟩) (cs:=[]) ⟨[],[(6,6)]⟩ [11,44] (by kernel_rfl) trivial) ?_
     refine sz tT ⟨[(6,vI u3),(7,vI 0)],[]⟩ {} [] ?_
     refine aR ?_
     obtain rfl:=oi h
     exact rl [sI u3,sI 0]
    |ret v=>
     obtain rfl:=oi h
     unfold dZ
     intro e st hn ha hR
     cases e with
     |normal=>exact absurd rfl hn
     |exit id=>exact hR
     |goto l=>exact hR
     |ret=>exact hR
     |panic c=>exact hR
     |outgrown=>exact hR
abbrev ag8:Ob:=(.cells 186 [.d (.fn 128 0 (qC [])),.d (.fn 129 0 (qC [])),.d (.fn 130 0 (qC []))])
abbrev agi:List (Nat × Option Ob):=[(0,some ag8)]
def JX  :Unit→Exit→St→Prop:=
  fun _=>bL TT [.tmp 0] (vO 0 true 3) agi
theorem I8  {r:Unit} (h:Dc=some r):Fn Try.prog 91 [] [] (vO 0 true 3) agi:=by
 refine fN tT Try.func91 rfl rfl fun B=> ?_
 show bR _ _ _ _ _ _ (JX r) _
 unfold Dc at h
 refine sz tT ⟨[],[]⟩ {} [] ?_
 refine sz tT ⟨[(0,vO 1 true 3)],[(1,some ag8)]⟩ {an:=[(3, .cells)],fr:=[(3,1)] } [] ?_
 refine aI (cO.fin (st':=⟨[(0,vO 0 true 3)],agi⟩) (cs:=[]) ⟨[],[(1,0)]⟩ [0] (by kernel_rfl) trivial) ?_
 refine aR ?_
 obtain rfl:=oi h
 exact rl [.one (.own 0 true 3)]
def lM  :Bool→Exit→St→Prop:=
  fun r=>bL TT [.tmp 6] (vB r) []
section
variable (x:aD)
abbrev ahW:TV:=(vD (ow [bJ none 1 (aT .i64) x.ah,bJ none 1 (aT .i64) x.ai,bJ none 2 aj.cell x.af] 0))
abbrev eP:Nat × TV:=(5,ahW x)
abbrev Yo:Nat × TV:=(12,vD (bJ none 1 (aT .i64) x.ah))
abbrev ZY:Nat × TV:=(13,vI (x.ah.length:Int))
end
def zV (p:au) (s_:aA) (x:aD):Int→St:=
  fun u0=> ⟨[bg p,bG s_,eP x,Yo x,ZY x,(14,vI u0)],[]⟩
section
variable (p:au) (s_:aA) (x:aD)
abbrev PK:St:=⟨[bg p,bG s_,eP x],[]⟩
end
def Ab (p:au) (s_:aA) (x:aD):Unit→St:=
  fun _=>(PK p s_ x)
def Jw (p:au) (s_:aA) (x:aD):(aY Int (Ex Unit Bool))→Exit→St→Prop:=
  LQ 0 [] (zV p s_ x) (Ab p s_ x) lM
section
variable (x:aD)
abbrev Zn:Nat × TV:=(44,vD (bJ none 1 (aT .i64) x.ai))
abbrev ZQ:Nat × TV:=(45,vI (x.ai.length:Int))
end
def zU (p:au) (s_:aA) (x:aD):Int→St:=
  fun u0=> ⟨[bg p,bG s_,Zn x,ZQ x,(46,vI u0)],[]⟩
def Ag  :Unit→St:=
  fun _=> ⟨[],[]⟩
def Jl (p:au) (s_:aA) (x:aD):(aY Int (Ex Unit Bool))→Exit→St→Prop:=
  LQ 2 [] (zU p s_ x) Ag lM
section
variable (p:au) (s_:aA) (x:aD) (u1:Int) (u0:Int)
abbrev V3:List SV:=[.agg (k22 p),.agg (k5 s_),.agg (abZ x)]
abbrev ady:TV:=(vB (decide (u1<(x.ah.length:Int))))
abbrev Oj:=(decide ((at' x.ah u1.toNat)<0))
abbrev RD:=(bif (Oj x u1)then true else(decide ((k56 p u1)<(at' x.ah u1.toNat))))
abbrev SF:=(decide (0<(at' x.ah u1.toNat)))
abbrev ahX:=(gY [(2,Oj x u1),(12,RD p x u1),(15,SF x u1)])
abbrev adl:TV:=(vB (decide (u0<(x.ai.length:Int))))
abbrev RF:=(decide ((at' x.ai u0.toNat)<(IntKind.wrap .i64 (0 - (Qi p u0)))))
abbrev Rw:=(bif (RF p x u0)then true else(decide ((Qi p u0)<(at' x.ai u0.toNat))))
abbrev Vt:=(!decide ((at' x.ai u0.toNat)=0))
abbrev ail:=(gY [(9,RF p x u0),(19,Rw p x u0),(22,Vt x u0)])
end
theorem J7 (p:au) (s_:aA) (x:aD) {r:Bool} (h:yH p s_ x=some r):Fn Try.prog 128 (V3 p s_ x) [] (vB r) []:=by
 refine fN tT Try.func128 rfl rfl fun B=> ?_
 show bR _ _ _ _ _ _ (lM r) _
 unfold yH at h
 refine sz tT (PK p s_ x) {fr:=[(0,3),(1,4),(2,5)] } [3,4,5] ?_
 refine aQ (sz tT ⟨[bg p,bG s_,eP x,Yo x,ZY x,(14,vI 0)],[]⟩ {} [] ?_)
 refine bE h fun y hy h=> ?_
 refine aL [] (zV p s_ x) (Ab p s_ x) lM hy (fun s f h=> ?_) ?_
 ·clear hy
  show bR _ _ _ _ _ _ ((Jw p s_ x) f) _
  unfold Ap at h
  obtain⟨u1,rfl⟩: ∃q,q=s:=⟨_,rfl⟩
  refine sz tT ⟨[bg p,bG s_,eP x,Yo x,ZY x,(14,vI u1),(15,ady x u1)],[]⟩ {} [] ?_
  refine aQ ?_
  refine bI h (fun hb1 h=> ?_) (fun hb1 h=> ?_)
  ·refine ct hb1 ?_
   refine aP (aQ (aB (aQ (aO h fun a1 h=> ?_))))
   refine rg tT ⟨[bg p,bG s_,eP x,(7,vI u1),(8,vI (at' x.ah u1.toNat)),Yo x,ZY x,(14,vI u1)],[]⟩ [_] {} [] ⟨a1,trivial⟩ ?_
   refine aQ (bE h fun r_ hr_ h=> ?_)
   refine aO h fun a1 h=> ?_
   refine rg tT ⟨[bg p,bG s_,eP x,Yo x,ZY x,(14,vI u1),(41,vB (bif (RD p x u1)then true else(bif (SF x u1)then(!r_)else false)))],[]⟩ (eqs (Oj x u1) 5 ((gP (ahX p x u1) [(2,false)]→All [(0:Int)≤u1∧u1<(p.ah.length:Int)])::(eqs (Oj x u1) 4 (eqs (RD p x u1) 3 (eqs (SF x u1) 4 [gP (ahX p x u1) [(15,true),(12,false)]→All [Fn Try.prog 65 (Rh p s_ u1) [] (vB r_) []],(SF x u1)=(SF x u1),(RD p x u1)=(RD p x u1),gP (ahX p x u1) [(12,false)]→All [(SF x u1)=(SF x u1)],(RD p x u1)=(RD p x u1)]))))) {yb:=[(2,Oj x u1),(12,RD p x u1),(15,SF x u1)],an:=[(19, .call [] (vB r_) [])] } [] (ae ⟨(fun hg=> ⟨a1 (bC hg),trivial⟩),ae (ae (ae ⟨(fun hg=> ⟨iB p s_ u1 (d9 hr_ (bC hg)),trivial⟩),rfl,rfl,(fun hg=> ⟨rfl,trivial⟩),rfl,trivial⟩))⟩) ?_
   refine bI h (fun hb h=> ?_) (fun hb h=> ?_)
   ·refine ct hb ?_
    refine sz tT ⟨[(6,vB false)],[]⟩ {} [] ?_
    refine aR ?_
    obtain rfl:=oi h
    exact lR dw (dm 0) dz (bL.mk (.inr rfl) (p:=[]) (l:=[sB false]) (by kernel_rfl) trivial (eB.refl _) trivial)
   ·refine cf hb ?_
    refine aP (rz tT ⟨[bg p,bG s_,eP x,Yo x,ZY x,(14,k3 u1)],[]⟩ {} [] ?_)
    obtain rfl:=oi h
    exact lN
  ·refine cf hb1 ?_
   refine aI (fz (PK p s_ x) []) ?_
   refine aX ?_
   obtain rfl:=oi h
   exact lB
 ·clear hy
  cases y with
  |brk z=>
   unfold dZ
   refine⟨_, .refl, ?_⟩
   refine aQ (sz tT ⟨[bg p,bG s_,Zn x,ZQ x,(46,vI 0)],[]⟩ {} [] ?_)
   refine bE h fun y1 hy h=> ?_
   refine aL [] (zU p s_ x) Ag lM hy (fun s f h=> ?_) ?_
   ·clear hy
    show bR _ _ _ _ _ _ ((Jl p s_ x) f) _
    unfold Ai at h
    obtain⟨u0,rfl⟩: ∃q,q=s:=⟨_,rfl⟩
    refine sz tT ⟨[bg p,bG s_,Zn x,ZQ x,(46,vI u0),(47,adl x u0)],[]⟩ {} [] ?_
    refine aQ ?_
    refine bI h (fun hb3 h=> ?_) (fun hb3 h=> ?_)
    ·refine ct hb3 ?_
     refine aP (aQ (aB (aQ (aO h fun a1 h=> ?_))))
     refine rg tT ⟨[bg p,bG s_,(9,vI u0),(10,vI (at' x.ai u0.toNat)),Zn x,ZQ x,(46,vI u0)],[]⟩ [_] {} [] ⟨a1,trivial⟩ ?_
     refine aQ (bE h fun u2 hr_1 h=> ?_)
     refine aO h fun⟨a1,a2⟩ h=> ?_
     refine rg tT ⟨[bg p,bG s_,Zn x,ZQ x,(46,vI u0),(80,vB (bif (Rw p x u0)then true else(bif (Vt x u0)then(!u2)else false)))],[]⟩ (_::(eqs (RF p x u0) 5 ((gP (ail p x u0) [(9,false)]→All [(0:Int)≤u0∧u0<(p.ai.length:Int)])::(eqs (RF p x u0) 4 (eqs (Rw p x u0) 3 (eqs (Vt x u0) 4 [gP (ail p x u0) [(22,true),(19,false)]→All [Fn Try.prog 78 (Rh p s_ u0) [] (vB u2) []],(Vt x u0)=(Vt x u0),(Rw p x u0)=(Rw p x u0),gP (ail p x u0) [(19,false)]→All [(Vt x u0)=(Vt x u0)],(Rw p x u0)=(Rw p x u0)])))))) {yb:=[(9,RF p x u0),(19,Rw p x u0),(22,Vt x u0)],an:=[(26, .call [] (vB u2) [])] } [] ⟨a1,ae ⟨(fun hg=> ⟨a2 (bC hg),trivial⟩),ae (ae (ae ⟨(fun hg=> ⟨fA p s_ u0 (d9 hr_1 (bC hg)),trivial⟩),rfl,rfl,(fun hg=> ⟨rfl,trivial⟩),rfl,trivial⟩))⟩⟩ ?_
     refine bI h (fun hb2 h=> ?_) (fun hb2 h=> ?_)
     ·refine ct hb2 ?_
      refine sz tT ⟨[(6,vB false)],[]⟩ {} [] ?_
      refine aR ?_
      obtain rfl:=oi h
      exact lR dw (dm 2) dz (bL.mk (.inr rfl) (p:=[]) (l:=[sB false]) (by kernel_rfl) trivial (eB.refl _) trivial)
     ·refine cf hb2 ?_
      refine aP (rz tT ⟨[bg p,bG s_,Zn x,ZQ x,(46,k3 u0)],[]⟩ {} [] ?_)
      obtain rfl:=oi h
      exact lN
    ·refine cf hb3 ?_
     refine aI (fz ⟨[],[]⟩ []) ?_
     refine aX ?_
     obtain rfl:=oi h
     exact lB
   ·clear hy
    cases y1 with
    |brk z=>
     unfold dZ
     refine⟨_, .refl, ?_⟩
     refine sz tT ⟨[(6,vB true)],[]⟩ {} [] ?_
     refine aR ?_
     obtain rfl:=oi h
     exact rl [sB true]
    |ret v=>
     obtain rfl:=oi h
     unfold dZ
     intro e st hn ha hR
     cases e with
     |normal=>exact absurd rfl hn
     |exit id=>exact hR
     |goto l=>exact hR
     |ret=>exact hR
     |panic c=>exact hR
     |outgrown=>exact hR
  |ret v=>
   obtain rfl:=oi h
   unfold dZ
   intro e st hn ha hR
   cases e with
   |normal=>exact absurd rfl hn
   |exit id=>exact hR
   |goto l=>exact hR
   |ret=>exact hR
   |panic c=>exact hR
   |outgrown=>exact hR
def zG  :Bool→Exit→St→Prop:=
  fun r=>bL TT [.tmp 6] (vB r) []
section
variable (x:aD)
abbrev Gi:Nat × TV:=(12,vD (bJ none 2 aj.cell x.af))
abbrev GH:Nat × TV:=(13,vI (x.af.length:Int))
end
def Dy (p:au) (s_:aA) (x:aD):Int→St:=
  fun u0=> ⟨[bg p,bG s_,Gi x,GH x,(14,vI u0)],[]⟩
def DZ  :Unit→St:=
  fun _=> ⟨[],[]⟩
def vX (p:au) (s_:aA) (x:aD):(aY Int (Ex Unit Bool))→Exit→St→Prop:=
  LQ 0 [] (Dy p s_ x) DZ zG
section
variable (x:aD) (u0:Int)
abbrev Ph:Nat × TV:=(8,aga x u0)
abbrev agU:List CV:=[cI (MN x u0),cI (Nk x u0)]
abbrev P5:Nat × TV:=(19,.v (.agg (agU x u0)))
end
def DX (p:au) (s_:aA) (x:aD) (u0:Int):Int→St:=
  fun u1=> ⟨[bg p,bG s_,(7,vI u0),Ph x u0,Gi x,GH x,(14,vI u0),P5 x u0,(20,vI u1)],[]⟩
section
variable (p:au) (s_:aA) (u0:Int) (x:aD)
abbrev aii:St:=⟨[bg p,bG s_,(7,vI u0),Ph x u0,Gi x,GH x,(14,vI u0)],[]⟩
end
def Dv (p:au) (s_:aA) (x:aD) (u0:Int):Unit→St:=
  fun _=>(aii p s_ u0 x)
def Nf (p:au) (s_:aA) (x:aD) (u0:Int):(aY Int (Ex Unit (aY Int (Ex Unit Bool))))→Exit→St→Prop:=
  LQ 2 [1] (DX p s_ x u0) (Dv p s_ x u0) (vX p s_ x)
section
variable (x:aD) (u0:Int) (u1:Int) (p:au) (r_:Bool)
abbrev YJ:=(at' [(at' x.af u0.toNat).e0,(at' x.af u0.toNat).e1] u1.toNat)
abbrev agE:Nat × TV:=(10,vI (YJ x u0 u1))
abbrev TF:=(decide ((YJ x u0 u1)<0))
abbrev Jd:=(bif (TF x u0 u1)then true else(decide ((Yp p u0)<(YJ x u0 u1))))
abbrev Eu:=(decide (0<(YJ x u0 u1)))
abbrev aly:Nat × TV:=(52,vB (bif (Jd x u0 u1 p)then true else(bif (Eu x u0 u1)then(!r_)else false)))
abbrev Uz:=(gY [(2,TF x u0 u1),(12,Jd x u0 u1 p),(15,Eu x u0 u1)])
abbrev ajh:=(gP (Uz x u0 u1 p) [(2,false)]→All [(0:Int)≤u0∧u0<(p.af.length:Int)])
abbrev alk:=(gP (Uz x u0 u1 p) [(15,true),(12,false)]→All [(0:Int)≤u0∧u0<(p.af.length:Int)])
end
theorem Nj (p:au) (s_:aA) (x:aD) {r:Bool} (h:CY p s_ x=some r):Fn Try.prog 129 (V3 p s_ x) [] (vB r) []:=by
 refine fN tT Try.func129 rfl rfl fun B=> ?_
 show bR _ _ _ _ _ _ (zG r) _
 unfold CY at h
 refine sz tT ⟨[bg p,bG s_,(5,vP 9 0)],[(9,some (afI x))]⟩ {fr:=[(0,7),(1,8),(2,9)] } [7,8] ?_
 refine aQ (sz tT ⟨[bg p,bG s_,Gi x,GH x,(14,vI 0)],[]⟩ {} [] ?_)
 refine bE h fun y1 hy h=> ?_
 refine aL [] (Dy p s_ x) DZ zG hy (fun s f h=> ?_) ?_
 ·clear hy
  show bR _ _ _ _ _ _ ((vX p s_ x) f) _
  unfold DC at h
  obtain⟨u0,rfl⟩: ∃q,q=s:=⟨_,rfl⟩
  refine sz tT ⟨[bg p,bG s_,Gi x,GH x,(14,vI u0),(15,ab0 x u0)],[]⟩ {} [] ?_
  refine aQ ?_
  refine bI h (fun hb6 h=> ?_) (fun hb6 h=> ?_)
  ·refine ct hb6 ?_
   refine aP (aQ (aB (aQ (aO h fun a1 h=> ?_))))
   refine rg tT (aii p s_ u0 x) [_] {fr:=[(3,13)] } [13] ⟨a1,trivial⟩ ?_
   refine aQ (sz tT ⟨[bg p,bG s_,(7,vI u0),Ph x u0,Gi x,GH x,(14,vI u0),P5 x u0,(20,vI 0)],[]⟩ {} [] ?_)
   refine bE h fun y hy h=> ?_
   refine aL [1] (DX p s_ x u0) (Dv p s_ x u0) (vX p s_ x) hy (fun s f h=> ?_) ?_
   ·clear hy
    show bR _ _ _ _ _ _ ((Nf p s_ x u0) f) _
    unfold D6 at h
    obtain⟨u1,rfl⟩: ∃q,q=s:=⟨_,rfl⟩
    refine sz tT ⟨[bg p,bG s_,(7,vI u0),Ph x u0,Gi x,GH x,(14,vI u0),P5 x u0,(20,vI u1),(21,vB (decide (u1<2)))],[]⟩ {} [] ?_
    refine aQ ?_
    refine bI h (fun hb4 h=> ?_) (fun hb4 h=> ?_)
    ·refine ct hb4 ?_
     refine aP (aQ (aB (aQ (aO h fun a1 h=> ?_))))
     refine rg tT ⟨[bg p,bG s_,(7,vI u0),Ph x u0,(9,vI u1),agE x u0 u1,Gi x,GH x,(14,vI u0),P5 x u0,(20,vI u1)],[]⟩ [_,u1.toNat*1+1≤(agU x u0).length,((agU x u0).drop (u1.toNat*1)).take 1=[.int .i64 (YJ x u0 u1)].map .d] {an:=[(1, .vals [.int .i64 (YJ x u0 u1)])] } [] ⟨a1,abz (n:=2) (sz:=1) (Nat.le_refl _) a1,aan (n:=2) (sz:=1) (g:=fun q=>[cI (at' [(at' x.af u0.toNat).e0,(at' x.af u0.toNat).e1] q)]) (by intro q hq;match q,hq with|0,_=>rfl|1,_=>rfl) a1,trivial⟩ ?_
     refine aQ ?_
     refine bI h (fun hb h=> ?_) (fun _ h=> ?_)
     ·skip
      refine aI (cO.le (st':=⟨[bg p,bG s_,(7,vI u0),Ph x u0,(9,vI 0),agE x u0 u1,Gi x,GH x,(14,vI u0),P5 x u0,(20,vI 0)],[]⟩) ⟨⟨tR,tR,tR,tR,⟨_,rfl,eB.v (fG.one (eZ.of (congrArg (fun n=>CV.d (.int .i64 n)) (of_decide_eq_true hb))))⟩,tR,tR,tR,tR,tR,⟨_,rfl,eB.v (fG.one (eZ.of (congrArg (fun n=>CV.d (.int .i64 n)) (of_decide_eq_true hb))))⟩,trivial⟩,trivial⟩) ?_
      refine bE h fun r_ hr_ h=> ?_
      refine aO h fun⟨a1,a2⟩ h=> ?_
      refine dg tT mX ⟨[bg p,bG s_,(7,vI u0),Ph x u0,Gi x,GH x,(14,vI u0),P5 x u0,(20,vI 0),aly x u0 u1 p r_],[]⟩ (eqs (TF x u0 u1) 5 ((ajh x u0 u1 p)::(eqs (TF x u0 u1) 4 (eqs (Jd x u0 u1 p) 3 (eqs (Eu x u0 u1) 6 ((alk x u0 u1 p)::(eqs (Eu x u0 u1) 2 ((gP (Uz x u0 u1 p) [(15,true),(12,false)]→All [(0:Int)≤0∧(0:Int)<(2:Nat)])::(eqs (Eu x u0 u1) 2 [gP (Uz x u0 u1 p) [(15,true),(12,false)]→All [Fn Try.prog 79 [.agg (k5 s_),sI (X8 p u0)] [] (vB r_) []],(Eu x u0 u1)=(Eu x u0 u1),(Jd x u0 u1 p)=(Jd x u0 u1 p),gP (Uz x u0 u1 p) [(12,false)]→All [(Eu x u0 u1)=(Eu x u0 u1)],(Jd x u0 u1 p)=(Jd x u0 u1 p)]))))))))) {yb:=[(2,TF x u0 u1),(12,Jd x u0 u1 p),(15,Eu x u0 u1)],an:=[(25, .call [] (vB r_) [])] } [] (ae ⟨(fun hg=> ⟨a1 (bC hg),trivial⟩),ae (ae (ae ⟨(fun hg=> ⟨a2 (bC hg),trivial⟩),ae ⟨(fun hg=> ⟨(by decide),trivial⟩),ae ⟨(fun hg=> ⟨nW s_ (X8 p u0) (d9 hr_ (bC hg)),trivial⟩),rfl,rfl,(fun hg=> ⟨rfl,trivial⟩),rfl,trivial⟩⟩⟩))⟩) ?_
      refine bI h (fun hb1 h=> ?_) (fun hb1 h=> ?_)
      ·refine ct hb1 ?_
       refine sz tT ⟨[(6,vB false)],[]⟩ {} [] ?_
       refine aR ?_
       obtain rfl:=oi h
       exact lR dw (dm 2) dz (lR dw (dm 0) dz (bL.mk (.inr rfl) (p:=[]) (l:=[sB false]) (by kernel_rfl) trivial (eB.refl _) trivial))
      ·refine cf hb1 ?_
       refine aP (rz tT ⟨[bg p,bG s_,(7,vI u0),Ph x u0,Gi x,GH x,(14,vI u0),P5 x u0,(20,vI 1)],[]⟩ {} [] ?_)
       obtain rfl:=oi h
       exact lN
     ·skip
      refine aO h fun a1 h=> ?_
      refine aI (cO.le (st':=⟨[bg p,bG s_,(7,vI u0),Ph x u0,(9,vI 1),agE x u0 u1,Gi x,GH x,(14,vI u0),P5 x u0,(20,vI 1)],[]⟩) ⟨⟨tR,tR,tR,tR,⟨_,rfl,eB.v (fG.one (eZ.of (congrArg (fun n=>CV.d (.int .i64 n)) a1)))⟩,tR,tR,tR,tR,tR,⟨_,rfl,eB.v (fG.one (eZ.of (congrArg (fun n=>CV.d (.int .i64 n)) a1)))⟩,trivial⟩,trivial⟩) ?_
      refine bE h fun u2 hr_1 h=> ?_
      refine aO h fun⟨a1,a2⟩ h=> ?_
      refine dg tT mX ⟨[bg p,bG s_,(7,vI u0),Ph x u0,Gi x,GH x,(14,vI u0),P5 x u0,(20,vI 1),aly x u0 u1 p u2],[]⟩ (eqs (TF x u0 u1) 5 ((ajh x u0 u1 p)::(eqs (TF x u0 u1) 4 (eqs (Jd x u0 u1 p) 3 (eqs (Eu x u0 u1) 6 ((alk x u0 u1 p)::(eqs (Eu x u0 u1) 2 ((gP (Uz x u0 u1 p) [(15,true),(12,false)]→All [(0:Int)≤1∧(1:Int)<(2:Nat)])::(eqs (Eu x u0 u1) 2 [gP (Uz x u0 u1 p) [(15,true),(12,false)]→All [Fn Try.prog 79 [.agg (k5 s_),sI (XC p u0)] [] (vB u2) []],(Eu x u0 u1)=(Eu x u0 u1),(Jd x u0 u1 p)=(Jd x u0 u1 p),gP (Uz x u0 u1 p) [(12,false)]→All [(Eu x u0 u1)=(Eu x u0 u1)],(Jd x u0 u1 p)=(Jd x u0 u1 p)]))))))))) {yb:=[(2,TF x u0 u1),(12,Jd x u0 u1 p),(15,Eu x u0 u1)],an:=[(25, .call [] (vB u2) [])] } [] (ae ⟨(fun hg=> ⟨a1 (bC hg),trivial⟩),ae (ae (ae ⟨(fun hg=> ⟨a2 (bC hg),trivial⟩),ae ⟨(fun hg=> ⟨(by decide),trivial⟩),ae ⟨(fun hg=> ⟨nW s_ (XC p u0) (d9 hr_1 (bC hg)),trivial⟩),rfl,rfl,(fun hg=> ⟨rfl,trivial⟩),rfl,trivial⟩⟩⟩))⟩) ?_
      refine bI h (fun hb3 h=> ?_) (fun hb3 h=> ?_)
      ·refine ct hb3 ?_
       refine sz tT ⟨[(6,vB false)],[]⟩ {} [] ?_
       refine aR ?_
       obtain rfl:=oi h
       exact lR dw (dm 2) dz (lR dw (dm 0) dz (bL.mk (.inr rfl) (p:=[]) (l:=[sB false]) (by kernel_rfl) trivial (eB.refl _) trivial))
      ·refine cf hb3 ?_
       refine aP (rz tT ⟨[bg p,bG s_,(7,vI u0),Ph x u0,Gi x,GH x,(14,vI u0),P5 x u0,(20,vI 2)],[]⟩ {} [] ?_)
       obtain rfl:=oi h
       exact lN
    ·refine cf hb4 ?_
     refine aI (fz (aii p s_ u0 x) []) ?_
     refine aX ?_
     obtain rfl:=oi h
     exact lB
   ·clear hy
    cases y with
    |brk z=>
     unfold dZ
     refine⟨_, .refl, ?_⟩
     refine aQ (aO h fun a1 h=> ?_)
     refine dg tT mX ⟨[bg p,bG s_,Gi x,GH x,(14,vI u0),(65,vB (decide ((Yp p u0)<(IntKind.wrap .i64 ((MN x u0)+(Nk x u0))))))],[]⟩ [(0:Int)≤0∧(0:Int)<(2:Nat),(0:Int)≤1∧(1:Int)<(2:Nat),_] {} [] ⟨(by decide),(by decide),a1,trivial⟩ ?_
     refine bI h (fun hb5 h=> ?_) (fun hb5 h=> ?_)
     ·refine ct hb5 ?_
      refine sz tT ⟨[(6,vB false)],[]⟩ {} [] ?_
      refine aR ?_
      obtain rfl:=oi h
      exact lR dw (dm 0) dz (bL.mk (.inr rfl) (p:=[]) (l:=[sB false]) (by kernel_rfl) trivial (eB.refl _) trivial)
     ·refine cf hb5 ?_
      refine aP (rz tT ⟨[bg p,bG s_,Gi x,GH x,(14,k3 u0)],[]⟩ {} [] ?_)
      obtain rfl:=oi h
      exact lN
    |ret v=>
     obtain rfl:=oi h
     unfold dZ
     intro e st hn ha hR
     cases e with
     |normal=>exact absurd rfl hn
     |exit id=>simp only [qW (b:=1) ha rfl,cond_false];exact hR
     |goto l=>exact hR
     |ret=>exact hR
     |panic c=>exact hR
     |outgrown=>exact hR
  ·refine cf hb6 ?_
   refine aI (fz ⟨[],[]⟩ []) ?_
   refine aX ?_
   obtain rfl:=oi h
   exact lB
 ·clear hy
  cases y1 with
  |brk z=>
   unfold dZ
   refine⟨_, .refl, ?_⟩
   refine sz tT ⟨[(6,vB true)],[]⟩ {} [] ?_
   refine aR ?_
   obtain rfl:=oi h
   exact rl [sB true]
  |ret v=>
   obtain rfl:=oi h
   unfold dZ
   intro e st hn ha hR
   cases e with
   |normal=>exact absurd rfl hn
   |exit id=>exact hR
   |goto l=>exact hR
   |ret=>exact hR
   |panic c=>exact hR
   |outgrown=>exact hR
def Gt  :Bool→Exit→St→Prop:=
  fun r=>bL TT [.tmp 2] (vB r) []
theorem EA (n:Int) {r:Bool} (h:rU n=some r):Fn Try.prog 149 [sI n] [] (vB r) []:=by
 refine fN tT Try.func149 rfl rfl fun B=> ?_
 show bR _ _ _ _ _ _ (Gt r) _
 unfold rU at h
 refine sz tT ⟨[(0,vI n)],[]⟩ {} [] ?_
 refine sz tT ⟨[(2,vB (!decide (n=0)))],[]⟩ {} [] ?_
 refine aR ?_
 obtain rfl:=oi h
 exact rl [sB (!decide (n=0))]
section
variable (s_:List Int)
abbrev zD:List (Nat × Option Ob):=[Lu s_]
end
def jR (s_:List Int):Int→Exit→St→Prop:=
  fun r=>bL TT [.tmp 4] (vI r) (zD s_)
section
variable (s_:List Int)
abbrev F9:Nat × TV:=(0,vO 0 true s_.length)
abbrev Wm:Nat × TV:=(1,vD (.fn 149 0 (qC [])))
end
def nT (s_:List Int):Int→St:=
  fun t8=> ⟨[F9 s_,Wm,rG s_,(8,vI t8)],zD s_⟩
def oD (s_:List Int):Unit→St:=
  fun _=> ⟨[],zD s_⟩
def xJ (s_:List Int):(aY Int (Ex Unit Int))→Exit→St→Prop:=
  LQ 0 [] (nT s_) (oD s_) (jR s_)
section
variable (s_:List Int)
abbrev ajI:St:=⟨[F9 s_,Wm],zD s_⟩
end
theorem xH (s_:List Int) {r:Int} (h:kN s_=some r):Fn Try.prog 113 [.one (.own 0 true s_.length),sD (.fn 149 0 (qC []))] (zD s_) (vI r) (zD s_):=by
 refine fN tT Try.func113 rfl rfl fun B=> ?_
 show bR _ _ _ _ _ _ ((jR s_) r) _
 unfold kN at h
 refine sz tT (ajI s_) {} [] ?_
 refine aQ (sz tT ⟨[F9 s_,Wm,rG s_,(8,vI 0)],zD s_⟩ {} [] ?_)
 refine bE h fun y hy h=> ?_
 refine aL [] (nT s_) (oD s_) (jR s_) hy (fun s f h=> ?_) ?_
 ·clear hy
  show bR _ _ _ _ _ _ ((xJ s_) f) _
  unfold oJ at h
  obtain⟨t8,rfl⟩: ∃q,q=s:=⟨_,rfl⟩
  refine sz tT ⟨[F9 s_,Wm,rG s_,(8,vI t8),aay t8 s_],zD s_⟩ {} [] ?_
  refine aQ ?_
  refine bI h (fun hb1 h=> ?_) (fun hb1 h=> ?_)
  ·refine ct hb1 ?_
   refine aP (aQ (aB (sz tT ⟨[F9 s_,Wm,(5,vI t8),rG s_,(8,vI t8)],zD s_⟩ {} [] ?_)))
   refine aQ (bE h fun r_ hr_ h=> ?_)
   refine aO h fun a1 h=> ?_
   have q2:=EA (at' s_ t8.toNat) hr_
   refine rg tT ⟨[F9 s_,Wm,(5,vI t8),rG s_,(8,vI t8),(16,vB r_)],zD s_⟩ [_,_,_] {an:=[(5,cA q2 [])] } [] ⟨a1,tL a1,q2,trivial⟩ ?_
   refine bI h (fun hb h=> ?_) (fun hb h=> ?_)
   ·refine ct hb ?_
    refine sz tT ⟨[(4,vI t8)],zD s_⟩ {} [] ?_
    refine aR ?_
    obtain rfl:=oi h
    exact lR dw (dm 0) dz (bL.mk (.inr rfl) (p:=[]) (l:=[sI t8]) (by kernel_rfl) trivial (eB.refl _) (.refl _))
   ·refine cf hb ?_
    refine aP (rz tT ⟨[F9 s_,Wm,rG s_,Hz t8],zD s_⟩ {} [] ?_)
    obtain rfl:=oi h
    exact lN
  ·refine cf hb1 ?_
   refine aI (fz ⟨[],zD s_⟩ []) ?_
   refine aX ?_
   obtain rfl:=oi h
   exact lB
 ·clear hy
  cases y with
  |brk z=>
   unfold dZ
   refine⟨_, .refl, ?_⟩
   refine sz tT ⟨[(4,vI (-1))],zD s_⟩ {} [] ?_
   refine aR ?_
   obtain rfl:=oi h
   exact rl [sI (-1)]
  |ret v=>
   obtain rfl:=oi h
   unfold dZ
   intro e st hn ha hR
   cases e with
   |normal=>exact absurd rfl hn
   |exit id=>exact hR
   |goto l=>exact hR
   |ret=>exact hR
   |panic c=>exact hR
   |outgrown=>exact hR
def wo (s_:List Int):Bool→Exit→St→Prop:=
  fun r=>bL TT [.tmp 4] (vB r) (zD s_)
theorem vM (s_:List Int) {r:Bool} (h:jJ s_=some r):Fn Try.prog 67 [.one (.own 0 true s_.length),sD (.fn 149 0 (qC []))] (zD s_) (vB r) (zD s_):=by
 refine fN tT Try.func67 rfl rfl fun B=> ?_
 show bR _ _ _ _ _ _ ((wo s_) r) _
 unfold jJ at h
 refine sz tT (ajI s_) {} [] ?_
 refine aQ (bE h fun r_ hr_ h=> ?_)
 have q0:=xH s_ hr_
 refine rg tT ⟨[(4,vB (decide (0≤r_)))],zD s_⟩ [_] {an:=[(2,cR q0 [0])] } [] ⟨q0,trivial⟩ ?_
 refine aR ?_
 obtain rfl:=oi h
 exact rl [sB (decide (0≤r_))]
def ic  :Bool→Exit→St→Prop:=
  fun r=>bL TT [.tmp 6] (vB r) []
section
variable (u0:List Int) (x:aD) (u1:Int) (p:au)
abbrev xM:Nat × TV:=(7,vO 11 true u0.length)
abbrev Yb:Nat × TV:=(20,vD (bJ none 1 (aT .i64) x.ah))
abbrev Zr:Nat × TV:=(21,vI (x.ah.length:Int))
abbrev aji:List (Nat × TV):=[(3,vP 8 0),(5,vP 10 0),xM u0,Yb x,Zr x,(22,vI u1)]
abbrev SC:Nat × Option Ob:=(8,some (k50 p))
abbrev R5:Nat × Option Ob:=(10,some (afI x))
abbrev SN:List (Nat × Option Ob):=[SC p,R5 x,(11,some (Gy u0))]
end
def yS (p:au) (x:aD):((List Int) × Int)→St:=
  fun zz=>match zz with|(u0,u1)=> ⟨aji u0 x u1,SN u0 x p⟩
section
variable (u0:List Int) (p:au) (x:aD)
abbrev aec:St:=⟨[(3,vP 8 0),(5,vP 10 0),xM u0],SN u0 x p⟩
end
def zH (p:au) (x:aD):(List Int)→St:=
  fun u0=>(aec u0 p x)
def Ir (p:au) (x:aD):(aY ((List Int) × Int) (Ex (List Int) Bool))→Exit→St→Prop:=
  LQ 0 [] (yS p x) (zH p x) ic
section
variable (x:aD)
abbrev Us:Nat × TV:=(41,vD (bJ none 1 (aT .i64) x.ai))
abbrev TW:Nat × TV:=(42,vI (x.ai.length:Int))
end
def yI (p:au) (x:aD):((List Int) × Int)→St:=
  fun zz=>match zz with|(u0,u1)=> ⟨[(3,vP 8 0),(5,vP 10 0),xM u0,Us x,TW x,(43,vI u1)],SN u0 x p⟩
def yX (p:au) (x:aD):(List Int)→St:=
  fun u0=>(aec u0 p x)
def Iu (p:au) (x:aD):(aY ((List Int) × Int) (Ex (List Int) Bool))→Exit→St→Prop:=
  LQ 2 [] (yI p x) (yX p x) ic
section
variable (x:aD) (u0:List Int) (p:au) (u1:Int)
abbrev Em:Nat × TV:=(74,vD (bJ none 2 aj.cell x.af))
abbrev El:Nat × TV:=(75,vI (x.af.length:Int))
abbrev Im:List (Nat × Option Ob):=[(11,some (Gy u0))]
abbrev af0:St:=⟨[bg p,xM u0,Em x,El x,(76,vI u1)],Im u0⟩
end
def zF (p:au) (x:aD):((List Int) × Int)→St:=
  fun zz=>match zz with|(u0,u1)=>(af0 x u0 p u1)
def yo  :(List Int)→St:=
  fun u0=> ⟨[xM u0],Im u0⟩
def rf (p:au) (x:aD):(aY ((List Int) × Int) (Ex (List Int) Bool))→Exit→St→Prop:=
  LQ 4 [] (zF p x) yo ic
section
variable (x:aD) (u0:Int) (p:au)
abbrev Ko:Nat × TV:=(13,aga x u0)
abbrev agW:List CV:=[cI (X8 p u0),cI (XC p u0)]
abbrev KS:Nat × TV:=(86,.v (.agg (agW u0 p)))
end
def zn (p:au) (x:aD) (u0:Int):((List Int) × Int)→St:=
  fun zz=>match zz with|(u1,u2)=> ⟨[bg p,xM u1,Ko x u0,Em x,El x,(76,vI u0),KS u0 p,(87,vI u2)],Im u1⟩
def zI (p:au) (x:aD) (u1:Int):(List Int)→St:=
  fun u0=>(af0 x u0 p u1)
def Ho (p:au) (x:aD) (u0:Int):(aY ((List Int) × Int) (Ex (List Int) (aY ((List Int) × Int) (Ex (List Int) Bool))))→Exit→St→Prop:=
  LQ 6 [5] (zn p x u0) (zI p x u0) (rf p x)
section
variable (p:au) (x:aD) (u6:List Int) (u5:Int) (u2:List Int) (u1:Int) (u7:List Int) (u0:Int) (u4:Int) (u3:List Int)
abbrev Wo:=(List.replicate p.ax.toNat (0:Int))
abbrev ajz:List (Nat × Option Ob):=[SC p,R5 x,(11,some (bW 3 1 (aT .i64) (Wo p)))]
abbrev agX:=(u6.set (Wu p u5) (IntKind.wrap .i64 ((at' u6 (Wu p u5))+(at' x.ah u5.toNat))))
abbrev afL:=(aS (aT .i64) (agX p x u6 u5))
abbrev aiU:Nat × TV:=(7,vO 11 true ((agX p x u6 u5).length))
abbrev ajr:List (Nat × Option Ob):=[SC p,R5 x,(11,some (bW 3 1 (aT .i64) (agX p x u6 u5)))]
abbrev akr:List (Nat × TV):=[(3,vP 8 0),(5,vP 10 0),xM u2,(10,vI u1),(11,vI (at' x.ai u1.toNat)),Us x,TW x,(43,vI u1)]
abbrev Xa:=(u2.set (WS u1 p) (IntKind.wrap .i64 ((at' u2 (WS u1 p)) - (at' x.ai u1.toNat))))
abbrev adf:=(aS (aT .i64) (Xa p x u2 u1))
abbrev akZ:Nat × TV:=(7,vO 11 true ((Xa p x u2 u1).length))
abbrev ak6:=(IntKind.wrap .i64 ((at' (Xa p x u2 u1) (Zk u1 p))+(at' x.ai u1.toNat)))
abbrev ah5:=((Xa p x u2 u1).set (Zk u1 p) (ak6 p x u2 u1))
abbrev ah4:=(aS (aT .i64) (ah5 p x u2 u1))
abbrev ajj:Nat × TV:=(7,vO 11 true ((ah5 p x u2 u1).length))
abbrev anG:List (Nat × Option Ob):=[SC p,R5 x,(11,some (bW 3 1 (aT .i64) (ah5 p x u2 u1)))]
abbrev anK:List (Nat × TV):=[bg p,xM u7,Ko x u0,Em x,El x,(76,vI u0),KS u0 p,(87,vI 0)]
abbrev ab9:=(at' [(Py p u0).e0,(Py p u0).e1] u4.toNat)
abbrev acZ:Nat × TV:=(15,vI (ab9 p u0 u4))
abbrev ahp:Nat × TV:=(92,vB (decide (0≤(ab9 p u0 u4))))
abbrev Yq:=((ab9 p u0 u4).toNat)
abbrev alG:=(IntKind.wrap .i64 ((at' u3 (Yq p u0 u4)) - (MN x u0)))
abbrev ahG:=(u3.set (Yq p u0 u4) (alG p x u0 u4 u3))
abbrev afX:=(aS (aT .i64) (ahG p x u0 u4 u3))
abbrev al9:Nat × TV:=(7,vO 11 true ((ahG p x u0 u4 u3).length))
abbrev al1:List (Nat × Option Ob):=[(11,some (bW 3 1 (aT .i64) (ahG p x u0 u4 u3)))]
abbrev ale:=(IntKind.wrap .i64 ((at' u3 (Yq p u0 u4)) - (Nk x u0)))
abbrev afR:=(u3.set (Yq p u0 u4) (ale p x u0 u4 u3))
abbrev afU:=(aS (aT .i64) (afR p x u0 u4 u3))
abbrev ajb:Nat × TV:=(7,vO 11 true ((afR p x u0 u4 u3).length))
abbrev aiI:List (Nat × Option Ob):=[(11,some (bW 3 1 (aT .i64) (afR p x u0 u4 u3)))]
end
theorem IA (p:au) (s_:aA) (x:aD) {r:Bool} (h:wm p s_ x=some r):Fn Try.prog 130 (V3 p s_ x) [] (vB r) []:=by
 refine fN tT Try.func130 rfl rfl fun B=> ?_
 show bR _ _ _ _ _ _ (ic r) _
 unfold wm at h
 refine sz tT ⟨[(3,vP 8 0),(5,vP 10 0)],[SC p,R5 x]⟩ {fr:=[(0,8),(1,9),(2,10)] } [] ?_
 refine aQ (aO h fun⟨a1,a2,a3⟩ h=> ?_)
 refine rg tT ⟨[(3,vP 8 0),(5,vP 10 0),(7,vO 11 true ((Wo p).length))],ajz p x⟩ [_,(p.ax:Int)=p.ax,_,_,(Wo p).length=p.ax.toNat,aZ p.ax.toNat 1 (fun _ j=>[.int .i64 0].getD j .nilp) (aS (aT .i64) (Wo p))] {an:=[(2, .arr (Wo p).length (aS (aT .i64) (Wo p)))],fr:=[(2,11)] } [] ⟨a1,rfl,a2,a3,List.length_replicate,fe _ _ _ _ _ (fun j hj=>(match j,hj with|0,_=>rfl)),trivial⟩ ?_
 refine aQ (sz tT ⟨[(3,vP 8 0),(5,vP 10 0),(7,vO 11 true ((Wo p).length)),Yb x,Zr x,(22,vI 0)],ajz p x⟩ {} [] ?_)
 refine bE h fun y hy h=> ?_
 refine aL [] (yS p x) (zH p x) ic hy (fun s f h=> ?_) ?_
 ·clear hy
  show bR _ _ _ _ _ _ ((Ir p x) f) _
  unfold xY at h
  obtain⟨u6,u5⟩:=s
  refine sz tT ⟨[(3,vP 8 0),(5,vP 10 0),xM u6,Yb x,Zr x,(22,vI u5),(23,ady x u5)],SN u6 x p⟩ {} [] ?_
  refine aQ ?_
  refine bI h (fun hb h=> ?_) (fun hb h=> ?_)
  ·refine ct hb ?_
   refine aP (aQ (aB (aQ (aO h fun a1 h=> ?_))))
   refine rg tT ⟨[(3,vP 8 0),(5,vP 10 0),xM u6,(8,vI u5),(9,vI (at' x.ah u5.toNat)),Yb x,Zr x,(22,vI u5)],SN u6 x p⟩ [_] {} [] ⟨a1,trivial⟩ ?_
   refine aO h fun⟨a1,a2⟩ h=> ?_
   refine ri tT ⟨aji u6 x u5,[SC p,R5 x,(11,some (.arr 3 1 u6.length (afL p x u6 u5)))]⟩ [_,_,_,_,_,aZ u6.length 1 (lZ (aS (aT .i64) u6) (Wu p u5) 0 [.int .i64 (IntKind.wrap .i64 ((at' u6 (Wu p u5))+(at' x.ah u5.toNat)))]) (afL p x u6 u5)] {an:=[(12, .arr 0 (afL p x u6 u5))] } [] ⟨a1,a2,tL a2,a2,tL a2,dA _ _ _ _ _ _ _ _ rfl (fun j hj=>(match j,hj with|0,_=>rfl)),trivial⟩ (cO.le (st':=⟨[(3,vP 8 0),(5,vP 10 0),aiU p x u6 u5,Yb x,Zr x,(22,vI u5)],ajr p x u6 u5⟩) ⟨⟨tR,tR,⟨_,rfl,eB.v (fG.one cW)⟩,tR,tR,tR,trivial⟩,hN 2 ⟨rfl,oW,trivial⟩⟩) ?_
   refine rz tT ⟨[(3,vP 8 0),(5,vP 10 0),aiU p x u6 u5,Yb x,Zr x,(22,k3 u5)],ajr p x u6 u5⟩ {} [] ?_
   obtain rfl:=oi h
   exact lN
  ·refine cf hb ?_
   refine aI (fz (aec u6 p x) []) ?_
   refine aX ?_
   obtain rfl:=oi h
   exact lB
 ·clear hy
  cases y with
  |brk z=>
   obtain⟨u8,rfl⟩: ∃q,q=z:=⟨_,rfl⟩
   unfold dZ
   refine⟨_, .refl, ?_⟩
   refine aQ (sz tT ⟨[(3,vP 8 0),(5,vP 10 0),xM u8,Us x,TW x,(43,vI 0)],SN u8 x p⟩ {} [] ?_)
   refine bE h fun y1 hy h=> ?_
   refine aL [] (yI p x) (yX p x) ic hy (fun s f h=> ?_) ?_
   ·clear hy
    show bR _ _ _ _ _ _ ((Iu p x) f) _
    unfold yw at h
    obtain⟨u2,u1⟩:=s
    refine sz tT ⟨[(3,vP 8 0),(5,vP 10 0),xM u2,Us x,TW x,(43,vI u1),(44,adl x u1)],SN u2 x p⟩ {} [] ?_
    refine aQ ?_
    refine bI h (fun hb1 h=> ?_) (fun hb1 h=> ?_)
    ·refine ct hb1 ?_
     refine aP (aQ (aB (aQ (aO h fun a1 h=> ?_))))
     refine rg tT ⟨akr x u2 u1,SN u2 x p⟩ [_] {} [] ⟨a1,trivial⟩ ?_
     refine aQ (aO h fun⟨a1,a2⟩ h=> ?_)
     refine ri tT ⟨akr x u2 u1,[SC p,R5 x,(11,some (.arr 3 1 u2.length (adf p x u2 u1)))]⟩ [_,_,_,_,_,aZ u2.length 1 (lZ (aS (aT .i64) u2) (WS u1 p) 0 [.int .i64 (IntKind.wrap .i64 ((at' u2 (WS u1 p)) - (at' x.ai u1.toNat)))]) (adf p x u2 u1)] {an:=[(12, .arr 0 (adf p x u2 u1))] } [] ⟨a1,a2,tL a2,a2,tL a2,dA _ _ _ _ _ _ _ _ rfl (fun j hj=>(match j,hj with|0,_=>rfl)),trivial⟩ (cO.le (st':=⟨[(3,vP 8 0),(5,vP 10 0),akZ p x u2 u1,(10,vI u1),(11,vI (at' x.ai u1.toNat)),Us x,TW x,(43,vI u1)],[SC p,R5 x,(11,some (bW 3 1 (aT .i64) (Xa p x u2 u1)))]⟩) ⟨⟨tR,tR,⟨_,rfl,eB.v (fG.one cW)⟩,tR,tR,tR,tR,tR,trivial⟩,hN 2 ⟨rfl,oW,trivial⟩⟩) ?_
     refine aO h fun⟨a1,a2⟩ h=> ?_
     refine ri tT ⟨[(3,vP 8 0),(5,vP 10 0),akZ p x u2 u1,Us x,TW x,(43,vI u1)],[SC p,R5 x,(11,some (.arr 3 1 (Xa p x u2 u1).length (ah4 p x u2 u1)))]⟩ [_,_,_,_,_,aZ (Xa p x u2 u1).length 1 (lZ (adf p x u2 u1) (Zk u1 p) 0 [.int .i64 (ak6 p x u2 u1)]) (ah4 p x u2 u1)] {an:=[(12, .arr 0 (ah4 p x u2 u1))] } [] ⟨a1,a2,tL a2,a2,tL a2,dA _ _ _ _ _ _ _ _ rfl (fun j hj=>(match j,hj with|0,_=>rfl)),trivial⟩ (cO.le (st':=⟨[(3,vP 8 0),(5,vP 10 0),ajj p x u2 u1,Us x,TW x,(43,vI u1)],anG p x u2 u1⟩) ⟨⟨tR,tR,⟨_,rfl,eB.v (fG.one cW)⟩,tR,tR,tR,trivial⟩,hN 2 ⟨rfl,oW,trivial⟩⟩) ?_
     refine rz tT ⟨[(3,vP 8 0),(5,vP 10 0),ajj p x u2 u1,Us x,TW x,(43,k3 u1)],anG p x u2 u1⟩ {} [] ?_
     obtain rfl:=oi h
     exact lN
    ·refine cf hb1 ?_
     refine aI (fz (aec u2 p x) []) ?_
     refine aX ?_
     obtain rfl:=oi h
     exact lB
   ·clear hy
    cases y1 with
    |brk z=>
     obtain⟨u9,rfl⟩: ∃q,q=z:=⟨_,rfl⟩
     unfold dZ
     refine⟨_, .refl, ?_⟩
     refine aQ (sz tT ⟨[bg p,xM u9,Em x,El x,(76,vI 0)],Im u9⟩ {} [8] ?_)
     refine bE h fun y3 hy h=> ?_
     refine aL [] (zF p x) yo ic hy (fun s f h=> ?_) ?_
     ·clear hy
      show bR _ _ _ _ _ _ ((rf p x) f) _
      unfold yP at h
      obtain⟨u7,u0⟩:=s
      refine sz tT ⟨[bg p,xM u7,Em x,El x,(76,vI u0),(77,ab0 x u0)],Im u7⟩ {} [] ?_
      refine aQ ?_
      refine bI h (fun hb6 h=> ?_) (fun hb6 h=> ?_)
      ·refine ct hb6 ?_
       refine aP (aQ (aB (aQ (aO h fun a1 h=> ?_))))
       refine rg tT ⟨[bg p,xM u7,(12,vI u0),Ko x u0,Em x,El x,(76,vI u0)],Im u7⟩ [_] {fr:=[(3,15)] } [15] ⟨a1,trivial⟩ ?_
       refine aQ (aO h fun a1 h=> ?_)
       refine rg tT ⟨anK p x u7 u0,Im u7⟩ [_] {} [] ⟨a1,trivial⟩ ?_
       refine bE h fun y2 hy h=> ?_
       refine aL [5] (zn p x u0) (zI p x u0) (rf p x) hy (fun s f h=> ?_) ?_
       ·clear hy
        show bR _ _ _ _ _ _ ((Ho p x u0) f) _
        unfold yE at h
        obtain⟨u3,u4⟩:=s
        refine sz tT ⟨[bg p,xM u3,Ko x u0,Em x,El x,(76,vI u0),KS u0 p,(87,vI u4),(88,vB (decide (u4<2)))],Im u3⟩ {} [] ?_
        refine aQ ?_
        refine bI h (fun hb5 h=> ?_) (fun hb5 h=> ?_)
        ·refine ct hb5 ?_
         refine aP (aQ (aB (aQ (aO h fun a1 h=> ?_))))
         refine rg tT ⟨[bg p,xM u3,Ko x u0,(14,vI u4),acZ p u0 u4,Em x,El x,(76,vI u0),KS u0 p,(87,vI u4)],Im u3⟩ [_,u4.toNat*1+1≤(agW u0 p).length,((agW u0 p).drop (u4.toNat*1)).take 1=[.int .i64 (ab9 p u0 u4)].map .d] {an:=[(1, .vals [.int .i64 (ab9 p u0 u4)])] } [] ⟨a1,abz (n:=2) (sz:=1) (Nat.le_refl _) a1,aan (n:=2) (sz:=1) (g:=fun q=>[cI (at' [(Py p u0).e0,(Py p u0).e1] q)]) (by intro q hq;match q,hq with|0,_=>rfl|1,_=>rfl) a1,trivial⟩ ?_
         refine sz tT ⟨[bg p,xM u3,Ko x u0,(14,vI u4),acZ p u0 u4,Em x,El x,(76,vI u0),KS u0 p,(87,vI u4),ahp p u0 u4],Im u3⟩ {} [] ?_
         refine bI h (fun hb4 h=> ?_) (fun hb4 h=> ?_)
         ·refine ct hb4 ?_
          refine bI h (fun hb2 h=> ?_) (fun _ h=> ?_)
          ·skip
           refine aI (cO.le (st':=⟨[bg p,xM u3,Ko x u0,(14,vI 0),acZ p u0 u4,Em x,El x,(76,vI u0),KS u0 p,(87,vI 0),ahp p u0 u4],Im u3⟩) ⟨⟨tR,tR,tR,⟨_,rfl,eB.v (fG.one (eZ.of (congrArg (fun n=>CV.d (.int .i64 n)) (of_decide_eq_true hb2))))⟩,tR,tR,tR,tR,tR,⟨_,rfl,eB.v (fG.one (eZ.of (congrArg (fun n=>CV.d (.int .i64 n)) (of_decide_eq_true hb2))))⟩,tR,trivial⟩,.refl _⟩) ?_
           refine aO h fun a1 h=> ?_
           refine di tT mX ⟨anK p x u3 u0,[(11,some (.arr 3 1 u3.length (afX p x u0 u4 u3)))]⟩ [_,_,(0:Int)≤0∧(0:Int)<(2:Nat),_,_,aZ u3.length 1 (lZ (aS (aT .i64) u3) (Yq p u0 u4) 0 [.int .i64 (alG p x u0 u4 u3)]) (afX p x u0 u4 u3)] {an:=[(9, .arr 0 (afX p x u0 u4 u3))] } [] ⟨a1,tL a1,(by decide),a1,tL a1,dA _ _ _ _ _ _ _ _ rfl (fun j hj=>(match j,hj with|0,_=>rfl)),trivial⟩ (cO.le (st':=⟨[bg p,al9 p x u0 u4 u3,Ko x u0,Em x,El x,(76,vI u0),KS u0 p,(87,vI 0)],al1 p x u0 u4 u3⟩) ⟨⟨tR,⟨_,rfl,eB.v (fG.one cW)⟩,tR,tR,tR,tR,tR,tR,trivial⟩,⟨rfl,oW,trivial⟩⟩) ?_
           refine rz tT ⟨[bg p,al9 p x u0 u4 u3,Ko x u0,Em x,El x,(76,vI u0),KS u0 p,(87,vI 1)],al1 p x u0 u4 u3⟩ {} [] ?_
           obtain rfl:=oi h
           exact lN
          ·skip
           refine aO h fun a1 h=> ?_
           refine aI (cO.le (st':=⟨[bg p,xM u3,Ko x u0,(14,vI 1),acZ p u0 u4,Em x,El x,(76,vI u0),KS u0 p,(87,vI 1),ahp p u0 u4],Im u3⟩) ⟨⟨tR,tR,tR,⟨_,rfl,eB.v (fG.one (eZ.of (congrArg (fun n=>CV.d (.int .i64 n)) a1)))⟩,tR,tR,tR,tR,tR,⟨_,rfl,eB.v (fG.one (eZ.of (congrArg (fun n=>CV.d (.int .i64 n)) a1)))⟩,tR,trivial⟩,.refl _⟩) ?_
           refine aO h fun a1 h=> ?_
           refine di tT mX ⟨[bg p,xM u3,Ko x u0,Em x,El x,(76,vI u0),KS u0 p,(87,vI 1)],[(11,some (.arr 3 1 u3.length (afU p x u0 u4 u3)))]⟩ [_,_,(0:Int)≤1∧(1:Int)<(2:Nat),_,_,aZ u3.length 1 (lZ (aS (aT .i64) u3) (Yq p u0 u4) 0 [.int .i64 (ale p x u0 u4 u3)]) (afU p x u0 u4 u3)] {an:=[(9, .arr 0 (afU p x u0 u4 u3))] } [] ⟨a1,tL a1,(by decide),a1,tL a1,dA _ _ _ _ _ _ _ _ rfl (fun j hj=>(match j,hj with|0,_=>rfl)),trivial⟩ (cO.le (st':=⟨[bg p,ajb p x u0 u4 u3,Ko x u0,Em x,El x,(76,vI u0),KS u0 p,(87,vI 1)],aiI p x u0 u4 u3⟩) ⟨⟨tR,⟨_,rfl,eB.v (fG.one cW)⟩,tR,tR,tR,tR,tR,tR,trivial⟩,⟨rfl,oW,trivial⟩⟩) ?_
           refine rz tT ⟨[bg p,ajb p x u0 u4 u3,Ko x u0,Em x,El x,(76,vI u0),KS u0 p,(87,vI 2)],aiI p x u0 u4 u3⟩ {} [] ?_
           obtain rfl:=oi h
           exact lN
         ·refine cf hb4 ?_
          refine aP (rz tT ⟨[bg p,xM u3,Ko x u0,Em x,El x,(76,vI u0),KS u0 p,(87,k3 u4)],Im u3⟩ {} [] ?_)
          obtain rfl:=oi h
          exact lN
        ·refine cf hb5 ?_
         refine aI (fz (af0 x u3 p u0) []) ?_
         refine aX ?_
         obtain rfl:=oi h
         exact lB
       ·clear hy
        cases y2 with
        |brk z=>
         obtain⟨v0,rfl⟩: ∃q,q=z:=⟨_,rfl⟩
         unfold dZ
         refine⟨_, .refl, ?_⟩
         refine rz tT ⟨[bg p,xM v0,Em x,El x,(76,k3 u0)],Im v0⟩ {} [] ?_
         obtain rfl:=oi h
         exact lN
        |ret v=>
         obtain rfl:=oi h
         unfold dZ
         intro e st hn ha hR
         cases e with
         |normal=>exact absurd rfl hn
         |exit id=>simp only [qW (b:=5) ha rfl,cond_false];exact hR
         |goto l=>exact hR
         |ret=>exact hR
         |panic c=>exact hR
         |outgrown=>exact hR
      ·refine cf hb6 ?_
       refine aI (fz ⟨[xM u7],Im u7⟩ []) ?_
       refine aX ?_
       obtain rfl:=oi h
       exact lB
     ·clear hy
      cases y3 with
      |brk z=>
       obtain⟨v1,rfl⟩: ∃q,q=z:=⟨_,rfl⟩
       unfold dZ
       refine⟨_, .refl, ?_⟩
       refine aQ (bE h fun r_ hr_ h=> ?_)
       have q0:=rk [(0,11)] (vM v1 hr_)
       refine rg tT ⟨[(6,vB (!r_))],[]⟩ [_] {an:=[(1,cR q0 [11])] } [] ⟨q0,trivial⟩ ?_
       refine aR ?_
       obtain rfl:=oi h
       exact rl [sB (!r_)]
      |ret v=>
       obtain rfl:=oi h
       unfold dZ
       intro e st hn ha hR
       cases e with
       |normal=>exact absurd rfl hn
       |exit id=>exact hR
       |goto l=>exact hR
       |ret=>exact hR
       |panic c=>exact hR
       |outgrown=>exact hR
    |ret v=>
     obtain rfl:=oi h
     unfold dZ
     intro e st hn ha hR
     cases e with
     |normal=>exact absurd rfl hn
     |exit id=>exact hR
     |goto l=>exact hR
     |ret=>exact hR
     |panic c=>exact hR
     |outgrown=>exact hR
  |ret v=>
   obtain rfl:=oi h
   unfold dZ
   intro e st hn ha hR
   cases e with
   |normal=>exact absurd rfl hn
   |exit id=>exact hR
   |goto l=>exact hR
   |ret=>exact hR
   |panic c=>exact hR
   |outgrown=>exact hR
def Ev  :Int→Exit→St→Prop:=
  fun r=>bL TT [.tmp 6] (vI r) []
section
variable (p:au) (s_:aA) (x:aD) (r_:Int)
abbrev agC:St:=⟨[bg p,bG s_,eP x,(7,vI r_)],[]⟩
abbrev adh:=(!decide ((x.ah.length:Int)=(p.ah.length:Int)))
abbrev adt:=(bif (adh p x)then true else(!decide ((x.ai.length:Int)=(p.ai.length:Int))))
abbrev alF:TV:=(vB (bif (adt p x)then true else(!decide ((x.af.length:Int)=(p.af.length:Int)))))
abbrev aiY:=(eqs (adh p x) 8 (eqs (adt p x) 8 []))
abbrev Jt:List (Nat × Option Ob):=[(10,some ag8)]
end
theorem Dr (p:au) (s_:aA) (x:aD) {r:Int} (h:ql p s_ x=some r):Fn Try.prog 48 (V3 p s_ x) [] (vI r) []:=by
 refine fN tT Try.func48 rfl rfl fun B=> ?_
 show bR _ _ _ _ _ _ (Ev r) _
 unfold ql at h
 refine sz tT (PK p s_ x) {fr:=[(0,7),(1,8),(2,9)] } [7,8,9] ?_
 refine aQ (aQ (bE h fun r_ hr_ h=> ?_))
 have q0:=iD p s_ hr_
 refine rg tT (agC p s_ x r_) [_] {an:=[(2,cA q0 [])] } [] ⟨q0,trivial⟩ ?_
 refine sz tT ⟨[bg p,bG s_,eP x,(7,vI r_),(14,vB (!decide (r_=0)))],[]⟩ {} [] ?_
 refine bI h (fun hb4 h=> ?_) (fun hb4 h=> ?_)
 ·refine ct hb4 ?_
  refine sz tT ⟨[(6,vI r_)],[]⟩ {} [] ?_
  refine aR ?_
  obtain rfl:=oi h
  exact rl [sI r_]
 ·refine cf hb4 ?_
  refine aP (aQ (sg tT ⟨[bg p,bG s_,eP x,(40,alF p x)],[]⟩ (aiY p x) {yb:=[(7,adh p x),(16,adt p x)] } [] (ae (ae trivial)) ?_))
  refine bI h (fun hb3 h=> ?_) (fun hb3 h=> ?_)
  ·refine ct hb3 ?_
   refine sz tT ⟨[(6,vI 20)],[]⟩ {} [] ?_
   refine aR ?_
   obtain rfl:=oi h
   exact rl [sI 20]
  ·refine cf hb3 ?_
   refine aP (aQ (aQ (bE h fun u3 hr_1 h=> ?_)))
   have q0:=rk [(0,10)] (I8 hr_1)
   refine rg tT ⟨[bg p,bG s_,eP x,(41,vO 10 true 3),(42,vI (3:Int)),(43,vI 0)],Jt⟩ [_] {an:=[(0,cA q0 [])] } [] ⟨q0,trivial⟩ ?_
   refine aB (YQ 12 (C9 11 (sz tT ⟨[bg p,bG s_,eP x,(41,vO 10 true 3),(42,vI (3:Int)),(43,vI 0),(44,vB true)],Jt⟩ {} [] ?_)))
   refine aQ (ck (aP (aQ (aB (aQ (aO h fun a1 h=> ?_))))))
   refine rg tT ⟨[bg p,bG s_,eP x,(9,vD (ow [.fn 128 0 (qC [])] 0)),(41,vO 10 true 3),(42,vI (3:Int)),(43,vI 0)],Jt⟩ [_] {fr:=[(2,11)] } [11] ⟨a1,trivial⟩ ?_
   refine aQ (bE h fun u0 hr_2 h=> ?_)
   have q0:=J7 p s_ x hr_2
   refine rg tT ⟨[bg p,bG s_,eP x,(41,vO 10 true 3),(42,vI (3:Int)),(43,vI 0),(53,vB (!u0))],Jt⟩ [_] {an:=[(5,cA q0 [])] } [] ⟨q0,trivial⟩ ?_
   refine bI h (fun hb2 h=> ?_) (fun hb2 h=> ?_)
   ·refine ct hb2 ?_
    refine sz tT ⟨[(6,vI 20)],[]⟩ {} [] ?_
    refine aR ?_
    obtain rfl:=oi h
    exact rl [sI 20]
   ·refine cf hb2 ?_
    refine aP (rz tT ⟨[bg p,bG s_,eP x,(41,vO 10 true 3),(42,vI (3:Int)),(43,vI 1)],Jt⟩ {} [] ?_)
    refine C9 10 (sz tT ⟨[bg p,bG s_,eP x,(41,vO 10 true 3),(42,vI (3:Int)),(43,vI 1),(44,vB true)],Jt⟩ {} [] ?_)
    refine aQ (ck (aP (aQ (aB (aQ (aO h fun a1 h=> ?_))))))
    refine rg tT ⟨[bg p,bG s_,eP x,(9,vD (ow [.fn 129 0 (qC [])] 0)),(41,vO 10 true 3),(42,vI (3:Int)),(43,vI 1)],Jt⟩ [_] {fr:=[(2,12)] } [12] ⟨a1,trivial⟩ ?_
    refine aQ (bE h fun u1 hr_3 h=> ?_)
    have q0:=Nj p s_ x hr_3
    refine rg tT ⟨[bg p,bG s_,eP x,(41,vO 10 true 3),(42,vI (3:Int)),(43,vI 1),(53,vB (!u1))],Jt⟩ [_] {an:=[(5,cA q0 [])] } [] ⟨q0,trivial⟩ ?_
    refine bI h (fun hb1 h=> ?_) (fun hb1 h=> ?_)
    ·refine ct hb1 ?_
     refine sz tT ⟨[(6,vI 20)],[]⟩ {} [] ?_
     refine aR ?_
     obtain rfl:=oi h
     exact rl [sI 20]
    ·refine cf hb1 ?_
     refine aP (rz tT ⟨[bg p,bG s_,eP x,(41,vO 10 true 3),(42,vI (3:Int)),(43,vI 2)],Jt⟩ {} [] ?_)
     refine C9 9 (sz tT ⟨[bg p,bG s_,eP x,(41,vO 10 true 3),(42,vI (3:Int)),(43,vI 2),(44,vB true)],Jt⟩ {} [] ?_)
     refine aQ (ck (aP (aQ (aB (aQ (aO h fun a1 h=> ?_))))))
     refine rg tT ⟨[bg p,bG s_,eP x,(9,vD (ow [.fn 130 0 (qC [])] 0)),(41,vO 10 true 3),(42,vI (3:Int)),(43,vI 2)],Jt⟩ [_] {fr:=[(2,13)] } [13] ⟨a1,trivial⟩ ?_
     refine aQ (bE h fun u2 hr_4 h=> ?_)
     have q0:=IA p s_ x hr_4
     refine rg tT ⟨[bg p,bG s_,eP x,(41,vO 10 true 3),(42,vI (3:Int)),(43,vI 2),(53,vB (!u2))],Jt⟩ [_] {an:=[(5,cA q0 [])] } [] ⟨q0,trivial⟩ ?_
     refine bI h (fun hb h=> ?_) (fun hb h=> ?_)
     ·refine ct hb ?_
      refine sz tT ⟨[(6,vI 20)],[]⟩ {} [] ?_
      refine aR ?_
      obtain rfl:=oi h
      exact rl [sI 20]
     ·refine cf hb ?_
      refine aP (rz tT ⟨[bg p,bG s_,eP x,(41,vO 10 true 3),(42,vI (3:Int)),(43,vI 3)],Jt⟩ {} [] ?_)
      refine C9 8 (sz tT ⟨[bg p,bG s_,eP x,(41,vO 10 true 3),(42,vI (3:Int)),(43,vI 3),(44,vB false)],Jt⟩ {} [] ?_)
      refine aQ (cn (aX (sz tT ⟨[(6,vI 0)],[]⟩ {} [] ?_)))
      refine aR ?_
      obtain rfl:=oi h
      exact rl [sI 0]
def K7  :Int→Exit→St→Prop:=
  fun r=>bL TT [.tmp 8] (vI r) []
section
variable (p:au) (s_:aA) (x:aD)
abbrev agb:Nat × TV:=(4,k27 p)
abbrev agy:Nat × TV:=(5,k8 s_)
abbrev adp:Nat × TV:=(6,ahW x)
end
theorem oL (p:au) (s_:aA) (x:aD) (u1:List Bool) {r:Int} (h:lY p s_ x u1=some r):Fn Try.prog 49 [.agg (k22 p),.agg (k5 s_),.agg (abZ x),sD (bJ none 1 aF u1)] [] (vI r) []:=by
 refine fN tT Try.func49 rfl rfl fun B=> ?_
 show bR _ _ _ _ _ _ (K7 r) _
 unfold lY at h
 refine sz tT ⟨[(3,vD (bJ none 1 aF u1)),agb p,agy s_,adp x],[]⟩ {fr:=[(0,3),(1,4),(2,5)] } [3,4,5] ?_
 refine aQ (aQ (bE h fun r_ hr_ h=> ?_))
 have q0:=Dr p s_ x hr_
 refine rg tT ⟨[(3,vD (bJ none 1 aF u1)),agb p,agy s_,adp x,(9,vI r_)],[]⟩ [_] {an:=[(3,cA q0 [])] } [] ⟨q0,trivial⟩ ?_
 refine sz tT ⟨[(3,vD (bJ none 1 aF u1)),agb p,agy s_,adp x,(9,vI r_),(17,vB (!decide (r_=0)))],[]⟩ {} [] ?_
 refine bI h (fun hb1 h=> ?_) (fun hb1 h=> ?_)
 ·refine ct hb1 ?_
  refine sz tT ⟨[(8,vI r_)],[]⟩ {} [] ?_
  refine aR ?_
  obtain rfl:=oi h
  exact rl [sI r_]
 ·refine cf hb1 ?_
  refine aP (aQ (bE h fun u0 hr_1 h=> ?_))
  have q0:=zA p s_ u1 hr_1
  refine rg tT ⟨[adp x,(10,vI u0.1),(11,vI u0.2)],[]⟩ [_] {an:=[(3,cA q0 [])] } [] ⟨q0,trivial⟩ ?_
  refine aQ (aQ (bE h fun u2 hr_2 h=> ?_))
  refine rg tT ⟨[(11,vI u0.2),(33,vB (bif (decide (u0.2=0))then(!decide (u0.1=u2))else false))],[]⟩ (eqs (decide (u0.2=0)) 3 ((gP (gY [(2,decide (u0.2=0))]) [(2,true)]→All [Fn Try.prog 41 (al3 x) [] (vI u2) []])::(eqs (decide (u0.2=0)) 2 []))) {yb:=[(2,decide (u0.2=0))],an:=[(5, .call [] (vI u2) [])] } [] (ae ⟨(fun hg=> ⟨fK x (d9 hr_2 (bC hg)),trivial⟩),ae trivial⟩) ?_
  refine bI h (fun hb h=> ?_) (fun hb h=> ?_)
  ·refine ct hb ?_
   refine rz tT ⟨[(11,vI 7)],[]⟩ {} [] ?_
   refine sz tT ⟨[(8,vI 7)],[]⟩ {} [] ?_
   refine aR ?_
   obtain rfl:=oi h
   exact rl [sI 7]
  ·refine cf hb ?_
   refine aP (sz tT ⟨[(8,vI u0.2)],[]⟩ {} [] ?_)
   refine aR ?_
   obtain rfl:=oi h
   exact rl [sI u0.2]
def vg  :Bool→Exit→St→Prop:=
  fun r=>bL TT [.tmp 4] (vB r) []
def Ah (a:List Int) (b:List Int):Int→St:=
  fun i=> ⟨[mr a,F6 b,(5,vI i)],[]⟩
def AP  :Unit→St:=
  fun _=> ⟨[],[]⟩
def Jk (a:List Int) (b:List Int):(aY Int (Ex Unit Bool))→Exit→St→Prop:=
  LQ 0 [] (Ah a b) AP vg
end
end Sg
