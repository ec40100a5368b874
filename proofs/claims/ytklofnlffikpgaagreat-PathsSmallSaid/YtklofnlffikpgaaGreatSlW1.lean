import Derived.Test.YtklofnlffikpgaaGreatSlW0
set_option linter.all false
namespace Sg
open Go Go.Proofs
set_option maxRecDepth 20000
noncomputable section
section
variable (x:Part) (p:ah) (s_:State) (is:Bool) (r_:Int) (u0:State)
abbrev TY:List CV:=[cI x.kind,cI x.index]
abbrev adW:List SV:=[.agg (k1 p),.agg (k25 s_),.agg (TY x),sB is]
abbrev Xc:=((⟨([]:List Bool),([]:List Bool),([]:List Bool),([]:List Bool),([]:List Bool),([]:List Bool),([]:List Bool)⟩:State),r_)
abbrev QR:List CV:=[.own 23 false u0.al.length]
abbrev GV:=(Vr 1 (QR u0))
abbrev Hq:List DV:=[.int .i64 1,.int .i64 2]
abbrev Hg:=(Vr 1 [.own 23 false u0.al.length,.own 21 false u0.ae.length])
abbrev GU:List DV:=[.int .i64 1,.int .i64 2,.int .i64 3]
abbrev Hy:=(Vr 1 [.own 23 false u0.al.length,.own 21 false u0.ae.length,.own 19 false u0.ag.length])
abbrev Ug:List CV:=[.own 21 false u0.ae.length]
abbrev UB:List CV:=[.own 19 false u0.ag.length]
end
theorem EO (p:ah) (s_:State) (x:Part) (is:Bool):cu Tryz.prog 114 (adW x p s_ is) [] (fun r=>(.dV [.agg [.d (aN none 1 af r.1.ap),.d (aN none 1 af r.1.aw),.d (aN none 1 af r.1.ag),.d (aN none 1 af r.1.on_),.d (aN none 1 af r.1.ae),.d (aN none 1 af r.1.am),.d (aN none 1 af r.1.al)],sI r.2])) (fun _=>[]) (iZ p s_ x is):=
  cZ tT mX Tryz.func114 (
  .rg {fr:=[(0,13),(1,14),(2,15),(3,16)],fz:=[13]} []<| .cl 2 (dZ p s_) fun r_=> .r<| .r<| .it (.rg {fz:=[16]} []<| .e (Xc r_))
  (.cl 1 (iT [(0,17),(1,18),(2,19),(3,20),(4,21),(5,22),(6,23),(7,24)] (AY s_)) fun u0=> .r<| .fk (cK x.kind 1) (.rg {an:=[(0, .map 0 (wO []) (Vr 1 []) []),(3, .map 1 (wO [.int .i64 1]) (GV u0) [23]),(6, .map 2 (wO Hq) (Hg u0) [23,21]),(9, .map 3 (wO GU) (Hy u0) [23,21,19]),(13, .look true (QR u0))],fr:=[(0,25)]} [.pf ⟨sO [some .i64] 1 1 0 (wO []) (Vr 1 []) [.int .i64 1] (QR u0) [23] 1 (wO [.int .i64 1]) (GV u0),⟨(fun i hi=>absurd hi (cL i)),(by intro i hi j hj;match i,j,hi,hj with|0,0,_,_=>exact bX.1 (show fw (CV.bV (.own 23 false u0.al.length)) [23]=true from by kernel_rfl)),0,(fun i hi=>absurd hi (cL i)), .inr ⟨rfl,rfl⟩,rfl,rfl,(fun i hi=>absurd hi (cL i))⟩⟩, .pf ⟨sO [some .i64] 1 1 1 (wO [.int .i64 1]) (GV u0) [.int .i64 2] (Ug u0) [23,21] 2 (wO Hq) (Hg u0),⟨(by intro i hi;match i,hi with|0,_=>rfl),(by intro i hi j hj;match i,j,hi,hj with|0,0,_,_=>exact bX.1 (show fw (CV.bV (.own 23 false u0.al.length)) [23,21]=true from by kernel_rfl)|1,0,_,_=>exact bX.1 (show fw (CV.bV (.own 21 false u0.ae.length)) [23,21]=true from by kernel_rfl)),1,(by intro i hi;match i,hi with|0,_=>rfl), .inr ⟨rfl,rfl⟩,rfl,rfl,(by intro i hi;match i,hi with|0,_=>exact fun _=> ⟨rfl,rfl⟩)⟩⟩, .pf ⟨sO [some .i64] 1 1 2 (wO Hq) (Hg u0) [.int .i64 3] (UB u0) [23,21,19] 3 (wO GU) (Hy u0),⟨(by intro i hi;match i,hi with|0,_=>rfl|1,_=>rfl),(by intro i hi j hj;match i,j,hi,hj with|0,0,_,_=>exact bX.1 (show fw (CV.bV (.own 23 false u0.al.length)) [23,21,19]=true from by kernel_rfl)|1,0,_,_=>exact bX.1 (show fw (CV.bV (.own 21 false u0.ae.length)) [23,21,19]=true from by kernel_rfl)|2,0,_,_=>exact bX.1 (show fw (CV.bV (.own 19 false u0.ag.length)) [23,21,19]=true from by kernel_rfl)),2,(by intro i hi;match i,hi with|0,_=>rfl|1,_=>rfl), .inr ⟨rfl,rfl⟩,rfl,rfl,(by intro i hi;match i,hi with|0,_=>exact fun _=> ⟨rfl,rfl⟩|1,_=>exact fun _=> ⟨rfl,rfl⟩)⟩⟩, .m [0] [(cK x.kind 1)=true] (lK [some .i64] 1 1 3 (wO GU) (Hy u0) [.int .i64 x.kind] [.d nS] true (QR u0)) (fun⟨hb1,_⟩=> ⟨(by intro i hi;match i,hi with|0,_=>rfl|1,_=>rfl|2,_=>rfl), .inl ⟨rfl,0,by decide,congrArg some hb1,(fun i hi=>absurd hi (cL i)),rfl⟩⟩)]<| .cl 5 (aM x.index 0 (IntKind.wrap .i64 ((u0.al.length:Int) - 1))) fun u1=> .r<| .it (.rg {fz:=[16]} []<| .e ((⟨([]:List Bool),([]:List Bool),([]:List Bool),([]:List Bool),([]:List Bool),([]:List Bool),([]:List Bool)⟩:State),14))
  (.a1 ((0:Int)<=x.index/\x.index<(u0.al.length:Int))<| .rg {an:=[(5, .arr 0 (aj af (u0.al.set x.index.toNat is)))]} [0, .t 0 x.index u0.al.length, .pf ⟨av u0.al.length 1 (fe (aj af u0.al) x.index.toNat 0 [.bool is]) (aj af (u0.al.set x.index.toNat is)),aQ _ _ _ _ _ _ _ _ rfl (fun j hj=>(match j,hj with|0,_=>rfl))⟩]<| .im (.ll 23 u0.al (u0.al.set x.index.toNat is))<| .rg {fz:=[17,18,19,20,21,22,23]} []<| .fz [16]<| .e ((⟨u0.ap,u0.aw,u0.ag,u0.on_,u0.ae,u0.am,u0.al.set x.index.toNat is⟩:State),0)))
  (.fk (cK x.kind 2) (.rg {an:=[(0, .map 0 (wO []) (Vr 1 []) []),(3, .map 1 (wO [.int .i64 1]) (GV u0) [23]),(6, .map 2 (wO Hq) (Hg u0) [23,21]),(9, .map 3 (wO GU) (Hy u0) [23,21,19]),(13, .look true (Ug u0))],fr:=[(0,25)]} [.pf ⟨sO [some .i64] 1 1 0 (wO []) (Vr 1 []) [.int .i64 1] (QR u0) [23] 1 (wO [.int .i64 1]) (GV u0),⟨(fun i hi=>absurd hi (cL i)),(by intro i hi j hj;match i,j,hi,hj with|0,0,_,_=>exact bX.1 (show fw (CV.bV (.own 23 false u0.al.length)) [23]=true from by kernel_rfl)),0,(fun i hi=>absurd hi (cL i)), .inr ⟨rfl,rfl⟩,rfl,rfl,(fun i hi=>absurd hi (cL i))⟩⟩, .pf ⟨sO [some .i64] 1 1 1 (wO [.int .i64 1]) (GV u0) [.int .i64 2] (Ug u0) [23,21] 2 (wO Hq) (Hg u0),⟨(by intro i hi;match i,hi with|0,_=>rfl),(by intro i hi j hj;match i,j,hi,hj with|0,0,_,_=>exact bX.1 (show fw (CV.bV (.own 23 false u0.al.length)) [23,21]=true from by kernel_rfl)|1,0,_,_=>exact bX.1 (show fw (CV.bV (.own 21 false u0.ae.length)) [23,21]=true from by kernel_rfl)),1,(by intro i hi;match i,hi with|0,_=>rfl), .inr ⟨rfl,rfl⟩,rfl,rfl,(by intro i hi;match i,hi with|0,_=>exact fun _=> ⟨rfl,rfl⟩)⟩⟩, .pf ⟨sO [some .i64] 1 1 2 (wO Hq) (Hg u0) [.int .i64 3] (UB u0) [23,21,19] 3 (wO GU) (Hy u0),⟨(by intro i hi;match i,hi with|0,_=>rfl|1,_=>rfl),(by intro i hi j hj;match i,j,hi,hj with|0,0,_,_=>exact bX.1 (show fw (CV.bV (.own 23 false u0.al.length)) [23,21,19]=true from by kernel_rfl)|1,0,_,_=>exact bX.1 (show fw (CV.bV (.own 21 false u0.ae.length)) [23,21,19]=true from by kernel_rfl)|2,0,_,_=>exact bX.1 (show fw (CV.bV (.own 19 false u0.ag.length)) [23,21,19]=true from by kernel_rfl)),2,(by intro i hi;match i,hi with|0,_=>rfl|1,_=>rfl), .inr ⟨rfl,rfl⟩,rfl,rfl,(by intro i hi;match i,hi with|0,_=>exact fun _=> ⟨rfl,rfl⟩|1,_=>exact fun _=> ⟨rfl,rfl⟩)⟩⟩, .m [0,1] [(cK x.kind 2)=true,(cK x.kind 1)=false] (lK [some .i64] 1 1 3 (wO GU) (Hy u0) [.int .i64 x.kind] [.d nS] true (Ug u0)) (fun⟨hb3,hb1,_⟩=> ⟨(by intro i hi;match i,hi with|0,_=>rfl|1,_=>rfl|2,_=>rfl), .inl ⟨rfl,1,by decide,congrArg some hb3,(by intro i hi;match i,hi with|0,_=>exact congrArg some hb1),rfl⟩⟩)]<| .cl 5 (aM x.index 0 (IntKind.wrap .i64 ((u0.ae.length:Int) - 1))) fun u2=> .r<| .it (.rg {fz:=[16]} []<| .e ((⟨([]:List Bool),([]:List Bool),([]:List Bool),([]:List Bool),([]:List Bool),([]:List Bool),([]:List Bool)⟩:State),14))
  (.a1 ((0:Int)<=x.index/\x.index<(u0.ae.length:Int))<| .rg {an:=[(5, .arr 0 (aj af (u0.ae.set x.index.toNat is)))]} [0, .t 0 x.index u0.ae.length, .pf ⟨av u0.ae.length 1 (fe (aj af u0.ae) x.index.toNat 0 [.bool is]) (aj af (u0.ae.set x.index.toNat is)),aQ _ _ _ _ _ _ _ _ rfl (fun j hj=>(match j,hj with|0,_=>rfl))⟩]<| .im (.ll 21 u0.ae (u0.ae.set x.index.toNat is))<| .rg {fz:=[17,18,19,20,21,22,23]} []<| .fz [16]<| .e ((⟨u0.ap,u0.aw,u0.ag,u0.on_,u0.ae.set x.index.toNat is,u0.am,u0.al⟩:State),0)))
  (.fk (cK x.kind 3) (.rg {an:=[(0, .map 0 (wO []) (Vr 1 []) []),(3, .map 1 (wO [.int .i64 1]) (GV u0) [23]),(6, .map 2 (wO Hq) (Hg u0) [23,21]),(9, .map 3 (wO GU) (Hy u0) [23,21,19]),(13, .look true (UB u0))],fr:=[(0,25)]} [.pf ⟨sO [some .i64] 1 1 0 (wO []) (Vr 1 []) [.int .i64 1] (QR u0) [23] 1 (wO [.int .i64 1]) (GV u0),⟨(fun i hi=>absurd hi (cL i)),(by intro i hi j hj;match i,j,hi,hj with|0,0,_,_=>exact bX.1 (show fw (CV.bV (.own 23 false u0.al.length)) [23]=true from by kernel_rfl)),0,(fun i hi=>absurd hi (cL i)), .inr ⟨rfl,rfl⟩,rfl,rfl,(fun i hi=>absurd hi (cL i))⟩⟩, .pf ⟨sO [some .i64] 1 1 1 (wO [.int .i64 1]) (GV u0) [.int .i64 2] (Ug u0) [23,21] 2 (wO Hq) (Hg u0),⟨(by intro i hi;match i,hi with|0,_=>rfl),(by intro i hi j hj;match i,j,hi,hj with|0,0,_,_=>exact bX.1 (show fw (CV.bV (.own 23 false u0.al.length)) [23,21]=true from by kernel_rfl)|1,0,_,_=>exact bX.1 (show fw (CV.bV (.own 21 false u0.ae.length)) [23,21]=true from by kernel_rfl)),1,(by intro i hi;match i,hi with|0,_=>rfl), .inr ⟨rfl,rfl⟩,rfl,rfl,(by intro i hi;match i,hi with|0,_=>exact fun _=> ⟨rfl,rfl⟩)⟩⟩, .pf ⟨sO [some .i64] 1 1 2 (wO Hq) (Hg u0) [.int .i64 3] (UB u0) [23,21,19] 3 (wO GU) (Hy u0),⟨(by intro i hi;match i,hi with|0,_=>rfl|1,_=>rfl),(by intro i hi j hj;match i,j,hi,hj with|0,0,_,_=>exact bX.1 (show fw (CV.bV (.own 23 false u0.al.length)) [23,21,19]=true from by kernel_rfl)|1,0,_,_=>exact bX.1 (show fw (CV.bV (.own 21 false u0.ae.length)) [23,21,19]=true from by kernel_rfl)|2,0,_,_=>exact bX.1 (show fw (CV.bV (.own 19 false u0.ag.length)) [23,21,19]=true from by kernel_rfl)),2,(by intro i hi;match i,hi with|0,_=>rfl|1,_=>rfl), .inr ⟨rfl,rfl⟩,rfl,rfl,(by intro i hi;match i,hi with|0,_=>exact fun _=> ⟨rfl,rfl⟩|1,_=>exact fun _=> ⟨rfl,rfl⟩)⟩⟩, .m [0,2,1] [(cK x.kind 3)=true,(cK x.kind 1)=false,(cK x.kind 2)=false] (lK [some .i64] 1 1 3 (wO GU) (Hy u0) [.int .i64 x.kind] [.d nS] true (UB u0)) (fun⟨hb5,hb1,hb3,_⟩=> ⟨(by intro i hi;match i,hi with|0,_=>rfl|1,_=>rfl|2,_=>rfl), .inl ⟨rfl,2,by decide,congrArg some hb5,(by intro i hi;match i,hi with|0,_=>exact congrArg some hb1|1,_=>exact congrArg some hb3),rfl⟩⟩)]<| .cl 5 (aM x.index 0 (IntKind.wrap .i64 ((u0.ag.length:Int) - 1))) fun u3=> .r<| .it (.rg {fz:=[16]} []<| .e ((⟨([]:List Bool),([]:List Bool),([]:List Bool),([]:List Bool),([]:List Bool),([]:List Bool),([]:List Bool)⟩:State),14))
  (.a1 ((0:Int)<=x.index/\x.index<(u0.ag.length:Int))<| .rg {an:=[(5, .arr 0 (aj af (u0.ag.set x.index.toNat is)))]} [0, .t 0 x.index u0.ag.length, .pf ⟨av u0.ag.length 1 (fe (aj af u0.ag) x.index.toNat 0 [.bool is]) (aj af (u0.ag.set x.index.toNat is)),aQ _ _ _ _ _ _ _ _ rfl (fun j hj=>(match j,hj with|0,_=>rfl))⟩]<| .im (.ll 19 u0.ag (u0.ag.set x.index.toNat is))<| .rg {fz:=[17,18,19,20,21,22,23]} []<| .fz [16]<| .e ((⟨u0.ap,u0.aw,u0.ag.set x.index.toNat is,u0.on_,u0.ae,u0.am,u0.al⟩:State),0)))
  (.rg {an:=[(0, .map 0 (wO []) (Vr 1 []) []),(3, .map 1 (wO [.int .i64 1]) (GV u0) [23]),(6, .map 2 (wO Hq) (Hg u0) [23,21]),(9, .map 3 (wO GU) (Hy u0) [23,21,19]),(13, .look false [.d nS])],fr:=[(0,25)]} [.pf ⟨sO [some .i64] 1 1 0 (wO []) (Vr 1 []) [.int .i64 1] (QR u0) [23] 1 (wO [.int .i64 1]) (GV u0),⟨(fun i hi=>absurd hi (cL i)),(by intro i hi j hj;match i,j,hi,hj with|0,0,_,_=>exact bX.1 (show fw (CV.bV (.own 23 false u0.al.length)) [23]=true from by kernel_rfl)),0,(fun i hi=>absurd hi (cL i)), .inr ⟨rfl,rfl⟩,rfl,rfl,(fun i hi=>absurd hi (cL i))⟩⟩, .pf ⟨sO [some .i64] 1 1 1 (wO [.int .i64 1]) (GV u0) [.int .i64 2] (Ug u0) [23,21] 2 (wO Hq) (Hg u0),⟨(by intro i hi;match i,hi with|0,_=>rfl),(by intro i hi j hj;match i,j,hi,hj with|0,0,_,_=>exact bX.1 (show fw (CV.bV (.own 23 false u0.al.length)) [23,21]=true from by kernel_rfl)|1,0,_,_=>exact bX.1 (show fw (CV.bV (.own 21 false u0.ae.length)) [23,21]=true from by kernel_rfl)),1,(by intro i hi;match i,hi with|0,_=>rfl), .inr ⟨rfl,rfl⟩,rfl,rfl,(by intro i hi;match i,hi with|0,_=>exact fun _=> ⟨rfl,rfl⟩)⟩⟩, .pf ⟨sO [some .i64] 1 1 2 (wO Hq) (Hg u0) [.int .i64 3] (UB u0) [23,21,19] 3 (wO GU) (Hy u0),⟨(by intro i hi;match i,hi with|0,_=>rfl|1,_=>rfl),(by intro i hi j hj;match i,j,hi,hj with|0,0,_,_=>exact bX.1 (show fw (CV.bV (.own 23 false u0.al.length)) [23,21,19]=true from by kernel_rfl)|1,0,_,_=>exact bX.1 (show fw (CV.bV (.own 21 false u0.ae.length)) [23,21,19]=true from by kernel_rfl)|2,0,_,_=>exact bX.1 (show fw (CV.bV (.own 19 false u0.ag.length)) [23,21,19]=true from by kernel_rfl)),2,(by intro i hi;match i,hi with|0,_=>rfl|1,_=>rfl), .inr ⟨rfl,rfl⟩,rfl,rfl,(by intro i hi;match i,hi with|0,_=>exact fun _=> ⟨rfl,rfl⟩|1,_=>exact fun _=> ⟨rfl,rfl⟩)⟩⟩, .m [2,1,0] [(cK x.kind 1)=false,(cK x.kind 2)=false,(cK x.kind 3)=false] (lK [some .i64] 1 1 3 (wO GU) (Hy u0) [.int .i64 x.kind] [.d nS] false [.d nS]) (fun⟨hb1,hb3,hb5,_⟩=> ⟨(by intro i hi;match i,hi with|0,_=>rfl|1,_=>rfl|2,_=>rfl), .inr ⟨rfl,(by intro i hi;match i,hi with|0,_=>exact congrArg some hb1|1,_=>exact congrArg some hb3|2,_=>exact congrArg some hb5), .refl _⟩⟩)]<| .cl 5 (aM x.index 0 (-1)) fun u4=> .r<| .it (.rg {fz:=[16]} []<| .e ((⟨([]:List Bool),([]:List Bool),([]:List Bool),([]:List Bool),([]:List Bool),([]:List Bool),([]:List Bool)⟩:State),14))
  (.no))))))
theorem tN (p:ah) (s_:State) (x:Part):cu Tryz.prog 58 [.agg (k1 p),.agg (k25 s_),.agg (TY x)] [] (fun r=>(.dV [.agg [.d (aN none 1 af r.1.ap),.d (aN none 1 af r.1.aw),.d (aN none 1 af r.1.ag),.d (aN none 1 af r.1.on_),.d (aN none 1 af r.1.ae),.d (aN none 1 af r.1.am),.d (aN none 1 af r.1.al)],sI r.2])) (fun _=>[]) (pE p s_ x):=
  cZ tT mX Tryz.func58 (
  .rg {fr:=[(0,4),(1,5),(2,6),(3,7)],fz:=[4,5,6]} []<| .cl 3 (EO p s_ x true) fun r_=> .r<| .en (r_.1,r_.2) [7] [])
section
variable (r_:Int)
abbrev ac4:=((⟨([]:List Bool),([]:List Bool),([]:List Bool),([]:List Bool),([]:List Bool),([]:List Bool),([]:List Bool)⟩:State),([]:List Int),r_)
end
theorem dP (p:ah) (s_:State) (l:List Transfer):cu Tryz.prog 13 (k40 p s_ l) [] (fun r=>(.dV [.agg [.own 0 false r.1.ap.length,.own 1 false r.1.aw.length,.own 2 false r.1.ag.length,.own 3 false r.1.on_.length,.own 4 false r.1.ae.length,.own 5 false r.1.am.length,.own 6 false r.1.al.length],.one (.own 7 false r.2.1.length),sI r.2.2])) (fun r=>[(0,some (aX 4 1 af r.1.ap)),(1,some (aX 4 1 af r.1.aw)),(2,some (aX 4 1 af r.1.ag)),(3,some (aX 4 1 af r.1.on_)),(4,some (aX 4 1 af r.1.ae)),(5,some (aX 4 1 af r.1.am)),(6,some (aX 4 1 af r.1.al)),(7,some (aX 3 1 (aG .i64) r.2.1)),(8,none)]) (bG p s_ l):=
  cZ tT mX Tryz.func13 (
  .rg {fr:=[(0,18),(1,19),(2,20)],fz:=[18,19]} []<| .cl 3 (gF p s_ l) fun r_=> .r<| .r<| .it (.r<| .im (.ad 7 21 3 1 (aj (aG .i64) ([]:List Int)))<| .im (.Kb 20 0 22 4 1 (aj af ([]:List Bool)))<| .im (.Kb 20 1 23 4 1 (aj af ([]:List Bool)))<| .im (.Kb 20 2 24 4 1 (aj af ([]:List Bool)))<| .im (.Kb 20 3 25 4 1 (aj af ([]:List Bool)))<| .im (.Kb 20 4 26 4 1 (aj af ([]:List Bool)))<| .im (.Kb 20 5 27 4 1 (aj af ([]:List Bool)))<| .im (.Kb 20 6 28 4 1 (aj af ([]:List Bool)))<| .en (ac4 r_) [] [(22,0),(23,1),(24,2),(25,3),(26,4),(27,5),(28,6),(21,7),(20,8)])
  (.cl 1 (iT [(0,29),(1,30),(2,31),(3,32),(4,33),(5,34),(6,35),(7,36)] (A8 s_)) fun u0=> .rg {fr:=[(2,37)]} []<| .rg {fr:=[(0,38)]} []<| .im (.Kb 38 0 39 3 1 (aj (aG .i64) ([]:List Int)))<| .cl 3 (iT [(0,29),(1,30),(2,31),(3,32),(4,33),(5,34),(6,35),(7,40)] (AJ p u0 l)) fun u1=> .r<| .cl 0 (iT [(0,41),(1,40),(2,37),(3,38),(4,29),(5,30),(6,31),(7,32),(8,33),(9,34),(10,35),(11,39),(12,42),(13,43)] (Cr u1.1 u1.2.1 u1.2.2.1 u1.2.2.2.1 u1.2.2.2.2.1 u0 u0 ([]:List Int))) fun u2=> .rf 41 [10,11] [] none 0 []<| .r<| .en ((⟨u2.1.ap,u0.aw,u0.ag,u0.on_,u0.ae,u0.am,u0.al⟩:State),u2.2.2,0) [] [(42,0),(30,1),(31,2),(32,3),(33,4),(34,5),(35,6),(43,7),(20,8)]))
section
variable (p:ah) (s_:State) (u0:Int)
abbrev EY:List SV:=[.agg (k1 p),.agg (k25 s_),sI u0]
end
theorem nJ (p:ah) (s_:State) (u0:Int):cu Tryz.prog 69 (EY p s_ u0) [] (fun r=>(vI r)) (fun _=>[]) (mV p s_ u0):=
  cZ tT mX Tryz.func69 (
  .rg {fr:=[(0,2),(1,3)],fz:=[2,3]} []<| .cl 2 (dZ p s_) fun r_=> .r<| .r<| .it (.r<| .e r_)
  (.r<| .it (.r<| .e 13)
  (.r<| .e 0)))
section
variable (s_:List Part) (v_:Part) (t8:Int)
abbrev FM:DV:=(aN none 2 Part.cell s_)
abbrev aax:List SV:=[sD (FM s_),.agg (TY v_)]
abbrev rC:=((0:Int)<=t8/\t8<(s_.length:Int))
end
theorem sK (s_:List Part) (v_:Part):cu Tryz.prog 123 (aax s_ v_) [] (fun r=>(vI r)) (fun _=>[]) (qC s_ v_):=
  cZ tT mX Tryz.func123 (
  .rg {fr:=[(0,1)],fz:=[1]} []<| .r<| .lp (σ:=Int) (β:=Unit) (0) [] [] ⟨[0,3,7],[],fun t8=>[(8,vI t8)],fun t8=>[]⟩ ⟨[],[],fun _=>[],fun _=>[]⟩
  (fun t8=> .r<| .it (.r<| .a1 (rC s_ t8)<| .r<| .it (.r<| .e (.done (.ret t8)))
  (.r<| .e (.next (k13 t8))))
  (.e (.done (.brk ()))))
  (fun _=> .r<| .e (-1)))
section
variable (u0:Int) (u1:Int) (u2:List Part)
abbrev NN:=(⟨k13 u0,u1⟩:Part)
abbrev abB:=(aj Part.cell [NN u0 u1])
abbrev VI:=(u2++[NN u0 u1])
end
theorem tH (p:ah):cu Tryz.prog 44 (k0 p) [] (fun r=>(.dV [.one (.own 0 false r.1.length),sI r.2])) (fun r=>[(0,some (aX 84 2 Part.cell r.1))]) (j4 p):=
  cZ tT mX Tryz.func44 (
  .rg {fr:=[(0,34)],fz:=[34]} []<| .cl 1 (xX p) fun r_=> .r<| .r<| .it (.r<| .im (.ad 2 35 84 2 (aj Part.cell ([]:List Part)))<| .en (([]:List Part),r_) [] [(35,0)])
  (.r<| .rg {an:=[(8, .arr [p.ar,(p.aa.length:Int),(p.aq.length:Int)].length (aj (aG .i64) [p.ar,(p.aa.length:Int),(p.aq.length:Int)]))],fr:=[(8,36)],fz:=[36]} [.pf ⟨[p.ar,(p.aa.length:Int),(p.aq.length:Int)].length=3,rfl⟩, .pf ⟨av 3 1 (iY 1 [.int .i64 p.ar,.int .i64 (p.aa.length:Int),.int .i64 (p.aq.length:Int)]) (aj (aG .i64) [p.ar,(p.aa.length:Int),(p.aq.length:Int)]),(by intro i hi j hj;match i,j,hi,hj with|0,0,_,_=>rfl|1,0,_,_=>rfl|2,0,_,_=>rfl)⟩]<| .im (.ad 5 69 84 2 (aj Part.cell ([]:List Part)))<| .lp (σ:=((List Part) × Int)) (β:=(List Part)) (([]:List Part),0) [] [(69,38)] ⟨[22,23],[],fun(u3,u0)=>[(5,vO 38 false u3.length),(24,vI u0)],fun(u3,u0)=>[(38,some (aX 84 2 Part.cell u3))]⟩ ⟨[],[],fun u4=>[(5,vO 38 false u4.length)],fun u4=>[(38,some (aX 84 2 Part.cell u4))]⟩
  (fun(u3,u0)=> .r<| .it (.a1 ((0:Int)<=u0/\u0<([p.ar,(p.aa.length:Int),(p.aq.length:Int)].length:Int))<| .r<| .r<| .lp (σ:=((List Part) × Int)) (β:=(List Part)) (u3,0) [] [] ⟨[6,22,23,24,29],[],fun(u2,u1)=>[(5,vO 38 false u2.length),(30,vI u1)],fun(u2,u1)=>[(38,some (aX 84 2 Part.cell u2))]⟩ ⟨[22,23,24],[],fun u5=>[(5,vO 38 false u5.length)],fun u5=>[(38,some (aX 84 2 Part.cell u5))]⟩
  (fun(u2,u1)=> .r<| .it (.r<| .a2 ((u2.length+[NN u0 u1].length)*16<=140737488355328) (u2.length+[NN u0 u1].length<=4611686018427387904)<| .rg {an:=[(5, .arr [NN u0 u1].length (abB u0 u1)),(6, .arr (VI u0 u1 u2).length (aj Part.cell (VI u0 u1 u2)))],fr:=[(5,67),(6,68)]} [.pf ⟨[NN u0 u1].length=1,rfl⟩, .pf ⟨av 1 2 (iY 2 [.int .i64 (k13 u0),.int .i64 u1]) (abB u0 u1),(by intro i hi j hj;match i,j,hi,hj with|0,0,_,_=>rfl|0,1,_,_=>rfl)⟩, .e (u2.length),0,1, .pf ⟨(VI u0 u1 u2).length=u2.length+[NN u0 u1].length,b_⟩, .pf ⟨av (u2.length+[NN u0 u1].length) 2 (fQ (aj Part.cell u2) u2.length (abB u0 u1)) (aj Part.cell (VI u0 u1 u2)),aP _ _ _ _⟩]<| .r<| .en (.next (VI u0 u1 u2,k13 u1)) [] [(68,38)])
  (.e (.done (.brk u2))))
  (fun u5=> .r<| .e (.next (u5,k13 u0))))
  (.e (.done (.brk u3))))
  (fun u4=> .r<| .en (u4,0) [] [(38,0)])))
section
variable (u0:Graph) (a:Int) (b:Int)
abbrev aaY:List (Nat × Option Ob):=[(0,some (.cells 141 [.ptr 1 0])),(1,some (.cells 195 [.own 2 false u0.ba.length,.mp 3,.mp 4])),(2,some (aX 84 2 Part.cell u0.ba)),(3,some (.gm 3 36 3 u0.bi.e0 none)),(4,some (.gm 3 36 3 u0.bi.e1 none))]
abbrev Hw:=((bD a u0.bi.e0)++[b])
abbrev Ud:=(aj (aG .i64) (Hw u0 a b))
abbrev SL:=((Hw u0 a b).length)
end
theorem eX (a:Int) (b:Int) (u0:Graph):cu Tryz.prog 124 [sI a,sI b,.one (.ptr 0 0)] (aaY u0) (fun r=>(.dV [])) (fun r=>[(0,some (.cells 141 [.ptr 1 0])),(1,some (.cells 195 [.own 2 false u0.ba.length,.mp 3,.mp 4])),(2,some (aX 84 2 Part.cell u0.ba)),(3,some (.gm 3 36 3 r.bi.e0 none)),(4,some (.gm 3 36 3 u0.bi.e1 none))]) (fD a b u0):=
  cZ tT mX Tryz.func124 (
  .a2 (((bD a u0.bi.e0).length+[b].length)*8<=140737488355328) ((bD a u0.bi.e0).length+[b].length<=4611686018427387904)<| .rg {an:=[(12, .gtk 8 (bD a u0.bi.e0)),(14, .arr [b].length (aj (aG .i64) [b])),(15, .arr (Hw u0 a b).length (Ud u0 a b)),(16, .gput (Hw u0 a b))],fr:=[(14,9),(15,10)]} [.pf ⟨(0:Int)<=0/\(0:Int)<(2:Nat),(by decide)⟩, .pf ⟨(0:Int)<=0/\(0:Int)<(2:Nat),(by decide)⟩, .pf ⟨(bD a u0.bi.e0)=(bD a u0.bi.e0),rfl⟩, .pf ⟨[b].length=1,rfl⟩, .pf ⟨av 1 1 (iY 1 [.int .i64 b]) (aj (aG .i64) [b]),(by intro i hi j hj;match i,j,hi,hj with|0,0,_,_=>rfl)⟩, .e ((bD a u0.bi.e0).length),0,1, .pf ⟨(Hw u0 a b).length=(bD a u0.bi.e0).length+[b].length,b_⟩, .pf ⟨av ((bD a u0.bi.e0).length+[b].length) 1 (fQ (aj (aG .i64) (bD a u0.bi.e0)) (bD a u0.bi.e0).length (aj (aG .i64) [b])) (Ud u0 a b),aP _ _ _ _⟩, .e (SL u0 a b), .e (SL u0 a b), .pf ⟨av (SL u0 a b) 1 (Ud u0 a b) (uo (Hw u0 a b)),(fun _ _ _ _=>rfl)⟩, .pf ⟨∀n0 c0,(some (a,CV.own 8 false (bD a u0.bi.e0).length):Option (Int × CV))=some (n0,c0)->n0=a,(fun _ _ h=>by cases h;rfl)⟩]<| .e (⟨u0.ba,(⟨lJ a (Hw u0 a b) u0.bi.e0,u0.bi.e1⟩:aF)⟩:Graph))
theorem dM (kz:Int) (i:Int) (u0:Graph):cu Tryz.prog 122 [sI kz,sI i,.one (.ptr 0 0)] (aaY u0) (fun r=>(vI r)) (fun r=>(aaY u0)) (fA kz i u0):=
  cZ tT mX Tryz.func122 (
  .r<| .cr 7 ⟨fun{r_} hr_=>((Fn.wC (frz:=[2]) (p:=[u0.ba.length=u0.ba.length]) (sK u0.ba (⟨kz,i⟩:Part) hr_) (by kernel_rfl) ⟨rfl,trivial⟩ rfl):Fn Tryz.prog 123 [.one (.own 2 false u0.ba.length),.agg [cI kz,cI i]] [(2,some (aX 84 2 Part.cell u0.ba))] (vI r_) [(2,some (aX 84 2 Part.cell u0.ba))])⟩ fun r_=> .r<| .e r_)
section
variable (v0:List (Int × (List Int))) (u8:Int) (r_:(List Part) × Int) (w0:Graph) (v7:Graph) (v6:Int) (w1:Int) (p:ah) (u0:Int) (u4:Int) (u1:Int) (u2:Int)
abbrev Ko:List (Nat × Option Ob):=[(17,some (.gm 3 36 3 v0 none))]
abbrev U7:=(IntKind.wrap .i64 ((2:Int)*u8))
abbrev YO:=(IntKind.wrap .i64 ((U7 u8)+1))
abbrev Mj:=(⟨r_.1,(⟨v0,([]:(List (Int × (List Int))))⟩:aF)⟩:Graph)
abbrev ZH:=(w0.bi.e0,k13 u8)
abbrev aaM:=(⟨r_.1,(⟨v7.bi.e0,([]:(List (Int × (List Int))))⟩:aF)⟩:Graph)
abbrev acg:=(iT [(0,20),(1,19),(2,21),(3,17),(4,18)] (eX (YO v6) (U7 w1) (aaM r_ v7)))
abbrev YA:=(at' [(at' p.aq u0.toNat).a,(at' p.aq u0.toNat).b] u4.toNat)
abbrev JC:=((0:Int)<=u1/\u1<(p.a_.length:Int))
abbrev r9:=((at' p.a_ u1.toNat).bj)
abbrev UQ:=(at' [(r9 p u1).e0,(r9 p u1).e1] u2.toNat)
abbrev KD:=((r9 p u1).e0)
abbrev Mf:=((r9 p u1).e1)
abbrev TL:List CV:=[cI (KD p u1),cI (Mf p u1)]
end
theorem Ad (p:ah) (s_:State) (u1:Int):cu Tryz.prog 70 (EY p s_ u1) [] (fun r=>(vP 0 0)) (fun r=>[(0,some (.cells 195 [.own 1 false r.ba.length,.mp 2,.mp 3])),(1,some (aX 84 2 Part.cell r.ba)),(2,some (.gm 3 36 3 r.bi.e0 none)),(3,some (.gm 3 36 3 r.bi.e1 none))]) (vF p s_ u1):=
  cZ tT mX Tryz.func70 (
  .rg {fr:=[(0,15),(1,16)],fz:=[16]} []<| .rg {an:=[(0, .gput []),(1, .gput [])],fr:=[(0,17),(1,18),(4,19),(5,20)]} []<| .cl 2 (iT [(0,21)] (tH p)) fun r_=> .r<| .r<| .r<| .r<| .lp (σ:=((List (Int × (List Int))) × Int)) (β:=(List (Int × (List Int)))) (([]:(List (Int × (List Int)))),0) [] [] ⟨[2,3,4,7,8,9,40],[15,18,19,20,21],fun(v0,u8)=>[(41,vI u8)],fun(v0,u8)=>(Ko v0)⟩ ⟨[2,3,4,7,8,9],[15,18,19,20,21],fun v1=>[],fun v1=>(Ko v1)⟩
  (fun(v0,u8)=> .r<| .it (.r<| .cl 6 (iT [(0,20),(1,19),(2,21),(3,17),(4,18)] (eX (U7 u8) (YO u8) (Mj v0 r_))) fun w0=> .r<| .r<| .e (.next (ZH u8 w0)))
  (.e (.done (.brk v0))))
  (fun v1=> .r<| .lp (σ:=((List (Int × (List Int))) × Int)) (β:=(List (Int × (List Int)))) (v1,0) [] [] ⟨[2,3,4,7,8,9,53,54],[15,18,19,20,21],fun(u5,u3)=>[(55,vI u3)],fun(u5,u3)=>(Ko u5)⟩ ⟨[2,3,4,7,8,9],[15,18,19,20,21],fun v2=>[],fun v2=>(Ko v2)⟩
  (fun(u5,u3)=> .r<| .it (.a1 (k81 u3 p)<| .rg {fr:=[(3,25)],fz:=[25]} []<| .a3 ((0:Int)<=u3/\u3<(s_.on_.length:Int)) (k82 u3 s_) (k83 u3 p s_)<| .rg {} [0,1,2]<| .it (.cr 2 (iT [(0,20),(1,19),(2,21),(3,17),(4,18)] (dM 2 u3 (Mj u5 r_))) fun v6=> .r<| .cl 3 (iT [(0,20),(1,19),(2,21),(3,17),(4,18)] (eX (-1) (U7 v6) (Mj u5 r_))) fun v7=> .r<| .cr 7 (iT [(0,20),(1,19),(2,21),(3,17),(4,18)] (dM 1 (YG u3 p) (aaM r_ v7))) fun w1=> .cl 9 (acg r_ v7 v6 w1) fun w2=> .r<| .r<| .e (.next (ZH u3 w2)))
  (.r<| .e (.next (u5,k13 u3))))
  (.e (.done (.brk u5))))
  (fun v2=> .rg {fz:=[15]} []<| .lp (σ:=((List (Int × (List Int))) × Int)) (β:=(List (Int × (List Int)))) (v2,0) [] [] ⟨[2,3,4,7,8,9,101,102],[18,19,20,21],fun(u6,u0)=>[(103,vI u0)],fun(u6,u0)=>(Ko u6)⟩ ⟨[2,3,4,7,8,9],[18,19,20,21],fun v3=>[],fun v3=>(Ko v3)⟩
  (fun(u6,u0)=> .r<| .it (.a1 (Z5 p u0)<| .rg {fr:=[(3,29)],fz:=[29]} []<| .a4 ((0:Int)<=u0/\u0<(s_.ap.length:Int)) ((gB [(!(at' s_.ap u0.toNat),false)]=true->(0:Int)<=u0/\u0<(s_.ag.length:Int))) ((gB [((bif (!(at' s_.ap u0.toNat))then true else(at' s_.ag u0.toNat)),false)]=true->(0:Int)<=(at' p.aq u0.toNat).a/\(at' p.aq u0.toNat).a<(s_.al.length:Int))) ((gB [((bif (bif (!(at' s_.ap u0.toNat))then true else(at' s_.ag u0.toNat))then true else(at' s_.al (((at' p.aq u0.toNat).a).toNat))),false)]=true->(0:Int)<=(at' p.aq u0.toNat).b/\(at' p.aq u0.toNat).b<(s_.al.length:Int)))<| .rg {} [0,1,2,3]<| .it (.r<| .e (.next (u6,k13 u0)))
  (.cr 2 (iT [(0,20),(1,19),(2,21),(3,17),(4,18)] (dM 3 u0 (Mj u6 r_))) fun v8=> .r<| .r<| .lp (σ:=((List (Int × (List Int))) × Int)) (β:=(List (Int × (List Int)))) (u6,0) [] [] ⟨[2,3,4,7,8,9,16,101,102,103,144],[18,19,20,21],fun(u9,u4)=>[(145,vI u4)],fun(u9,u4)=>(Ko u9)⟩ ⟨[2,3,4,7,8,9,101,102,103],[18,19,20,21],fun v4=>[],fun v4=>(Ko v4)⟩
  (fun(u9,u4)=> .r<| .it (.a1 ((0:Int)<=u4/\u4<((2:Nat):Int))<| .rg {an:=[(0, .vals [.int .i64 (YA p u0 u4)])]} [0, .dv 0 ⟨(0:Int)<=u4/\u4<((2:Nat):Int),u4.toNat*1+1<=[cI ((at' p.aq u0.toNat).a),cI ((at' p.aq u0.toNat).b)].length,fun ax=>aes (n:=2) (sz:=1) (cx _) ax⟩, .dv 0 ⟨(0:Int)<=u4/\u4<((2:Nat):Int),([cI ((at' p.aq u0.toNat).a),cI ((at' p.aq u0.toNat).b)].drop (u4.toNat*1)).take 1=[.int .i64 (YA p u0 u4)].map .d,fun ax=>acA (n:=2) (sz:=1) (g:=fun q=>[cI (at' [(at' p.aq u0.toNat).a,(at' p.aq u0.toNat).b] q)]) (by intro q hq;match q,hq with|0,_=>rfl|1,_=>rfl) ax⟩]<| .cr 3 (iT [(0,20),(1,19),(2,21),(3,17),(4,18)] (dM 1 (YA p u0 u4) (Mj u9 r_))) fun w3=> .cl 8 (iT [(0,20),(1,19),(2,21),(3,17),(4,18)] (eX (YO w3) (U7 v8) (Mj u9 r_))) fun v9=> .r<| .cr 6 (iT [(0,20),(1,19),(2,21),(3,17),(4,18)] (dM 1 (YA p u0 u4) (aaM r_ v9))) fun w4=> .cl 8 (acg r_ v9 v8 w4) fun w5=> .r<| .r<| .e (.next (ZH u4 w5)))
  (.e (.done (.brk u9))))
  (fun v4=> .r<| .e (.next (v4,k13 u0)))))
  (.e (.done (.brk u6))))
  (fun v3=> .a1 (JC p u1)<| .r<| .lp (σ:=((List (Int × (List Int))) × Int)) (β:=(List (Int × (List Int)))) (v3,0) [] [] ⟨[4,7,8,9,173],[18,19,20,21],fun(u7,u2)=>[(174,vI u2)],fun(u7,u2)=>(Ko u7)⟩ ⟨[7],[18,19,20,21],fun v5=>[],fun v5=>(Ko v5)⟩
  (fun(u7,u2)=> .r<| .it (.a1 ((0:Int)<=u2/\u2<((2:Nat):Int))<| .rg {an:=[(0, .vals [.int .i64 (UQ p u1 u2)])]} [0, .dv 0 ⟨(0:Int)<=u2/\u2<((2:Nat):Int),u2.toNat*1+1<=(TL p u1).length,fun ax=>aes (n:=2) (sz:=1) (cx _) ax⟩, .dv 0 ⟨(0:Int)<=u2/\u2<((2:Nat):Int),((TL p u1).drop (u2.toNat*1)).take 1=[.int .i64 (UQ p u1 u2)].map .d,fun ax=>acA (n:=2) (sz:=1) (g:=fun q=>[cI (at' [(r9 p u1).e0,(r9 p u1).e1] q)]) (by intro q hq;match q,hq with|0,_=>rfl|1,_=>rfl) ax⟩]<| .a1 ((gB [(decide (0<=(UQ p u1 u2)),true)]=true->(0:Int)<=(UQ p u1 u2)/\(UQ p u1 u2)<(s_.al.length:Int)))<| .r<| .it (.cr 3 (iT [(0,20),(1,19),(2,21),(3,17),(4,18)] (dM 1 (UQ p u1 u2) (Mj u7 r_))) fun w6=> .cl 6 (iT [(0,20),(1,19),(2,21),(3,17),(4,18)] (eX (YO w6) (-2) (Mj u7 r_))) fun w7=> .r<| .r<| .e (.next (ZH u2 w7)))
  (.r<| .e (.next (u7,k13 u2))))
  (.e (.done (.brk u7))))
  (fun v5=> .r<| .en (Mj v5 r_) [] [(19,0),(21,1),(17,2),(18,3)])))))
theorem sQ (s_:List Int) (u0:Bool):cu Tryz.prog 126 [sD (aN (some u0) 1 (aG .i64) s_)] [] (fun r=>(vO 0 false r.length)) (fun r=>[(0,some (aX 3 1 (aG .i64) r))]) (wK s_ u0):=
  cZ tT mX Tryz.func126 (
  .r<| .r<| .it (.r<| .im (.ad 2 2 3 1 (aj (aG .i64) ([]:List Int)))<| .en ([]:List Int) [] [(2,0)])
  (.a2 ((([]:List Int).length+s_.length)*8<=140737488355328) (([]:List Int).length+s_.length<=4611686018427387904)<| .rg {an:=[(0, .arr ([]:List Int).length (aj (aG .i64) ([]:List Int))),(2, .arr (([]:List Int)++s_).length (aj (aG .i64) (([]:List Int)++s_)))],fr:=[(0,3),(2,4)]} [.pf ⟨([]:List Int).length=0,rfl⟩, .pf ⟨av 0 1 (iY 1 []) (aj (aG .i64) ([]:List Int)),(fun i hi=>absurd hi (cL i))⟩, .e (([]:List Int).length),0,1, .pf ⟨(([]:List Int)++s_).length=([]:List Int).length+s_.length,b_⟩, .pf ⟨av (([]:List Int).length+s_.length) 1 (fQ (aj (aG .i64) ([]:List Int)) ([]:List Int).length (aj (aG .i64) s_)) (aj (aG .i64) (([]:List Int)++s_)),aP _ _ _ _⟩]<| .en (([]:List Int)++s_) [] [(4,0)]))
theorem yS (s:List Int) {r:List Int} (h:tq s=some r):Fn Tryz.prog 126 [sD (aN none 1 (aG .i64) s)] [] (vO 0 false r.length) [(0,some (aX 3 1 (aG .i64) r))]:=by
 refine Fn.nn (sQ s true h) fun hl=> ?_
 have hs:s=[]:=List.eq_nil_of_length_eq_zero hl
 subst hs
 exact sQ [] false (by rw [<-h];kernel_rfl)
theorem nW (s_:List Int) (v_:Int):cu Tryz.prog 169 [sD (aN none 1 (aG .i64) s_),sI v_] [] (fun r=>(vI r)) (fun _=>[]) (mU s_ v_):=
  cZ tT mX Tryz.func169 (
  .r<| .r<| .lp (σ:=Int) (β:=Unit) (0) [] [] ⟨[0,1,7],[],fun t8=>[(8,vI t8)],fun t8=>[]⟩ ⟨[],[],fun _=>[],fun _=>[]⟩
  (fun t8=> .r<| .it (.r<| .a1 ((0:Int)<=t8/\t8<(s_.length:Int))<| .r<| .it (.r<| .e (.done (.ret t8)))
  (.r<| .e (.next (k13 t8))))
  (.e (.done (.brk ()))))
  (fun _=> .r<| .e (-1)))
theorem vR (s:List Int) (i j:Int) {r:List Int} (h:sU s i j=some r):Fn Tryz.prog 170 [.one (.own 0 false s.length),sI i,sI j] [(0,some (aX 3 1 (aG .i64) s))] (vO 0 false r.length) [(0,some (aX 3 1 (aG .i64) r))]:=
 VQ Yj 170 rfl ⟨_,Tryz.func170,rfl,rfl⟩ s i j h
section
variable (u0:Graph) (a:Int)
abbrev ZJ:Nat × Option Ob:=(0,some (.cells 195 [.own 1 false u0.ba.length,.mp 2,.mp 3]))
abbrev XW:Nat × Option Ob:=(1,some (aX 84 2 Part.cell u0.ba))
abbrev ad2:List (Nat × Option Ob):=[ZJ u0,XW u0,(2,some (.gm 3 36 3 u0.bi.e0 none)),(3,some (.gm 3 36 3 u0.bi.e1 none))]
abbrev aaJ:List (Nat × Option Ob):=[(12,some (aX 3 1 (aG .i64) (bD a u0.bi.e0)))]
end
theorem qZ (a:Int) (b:Int) (u3:Int) (u0:Graph):cu Tryz.prog 127 [.one (.ptr 0 0),sI a,sI b,sI u3] (ad2 u0) (fun r=>(.dV [])) (fun r=>[ZJ u0,XW u0,(2,some (.gm 3 36 3 r.bi.e0 none)),(3,some (.gm 3 36 3 r.bi.e1 none))]) (pV a b u3 u0):=
  cZ tT mX Tryz.func127 (
  .fk (decide (u3=0)) (.si 3 u3 0 0<| .rg {an:=[(7, .gtk 12 (bD a u0.bi.e0))]} [.pf ⟨(0:Int)<=0/\(0:Int)<(2:Nat),(by decide)⟩, .pf ⟨(bD a u0.bi.e0)=(bD a u0.bi.e0),rfl⟩]<| .cr 2 ⟨fun{r_} hr_=>((Fn.wC (frz:=[12]) (p:=[(bD a u0.bi.e0).length=(bD a u0.bi.e0).length]) (nW (bD a u0.bi.e0) b hr_) (by kernel_rfl) ⟨rfl,trivial⟩ rfl):Fn Tryz.prog 169 [.one (.own 12 false ((bD a u0.bi.e0).length)),sI b] (aaJ u0 a) (vI r_) (aaJ u0 a))⟩ fun r_=> .r<| .cl 11 (iT [(0,12)] ⟨fun h=>vR (bD a u0.bi.e0) r_ (k13 r_) h⟩) fun u1=> .rg {an:=[(12, .gput u1)]} [.pf ⟨(0:Int)<=0/\(0:Int)<(2:Nat),(by decide)⟩,0, .e (u1.length), .e (u1.length), .pf ⟨av u1.length 1 (aj (aG .i64) u1) (uo u1),(fun _ _ _ _=>rfl)⟩, .pf ⟨∀n0 c0,(some (a,CV.own 12 false (bD a u0.bi.e0).length):Option (Int × CV))=some (n0,c0)->n0=a,(fun _ _ h=>by cases h;rfl)⟩]<| .a2 (((bD a u0.bi.e1).length+[b].length)*8<=140737488355328) ((bD a u0.bi.e1).length+[b].length<=4611686018427387904)<| .rg {an:=[(16, .gtk 13 (bD a u0.bi.e1)),(18, .arr [b].length (aj (aG .i64) [b])),(19, .arr ((bD a u0.bi.e1)++[b]).length (aj (aG .i64) ((bD a u0.bi.e1)++[b]))),(20, .gput ((bD a u0.bi.e1)++[b]))],fr:=[(18,14),(19,15)]} [.pf ⟨(0:Int)<=1/\(1:Int)<(2:Nat),(by decide)⟩, .pf ⟨(0:Int)<=1/\(1:Int)<(2:Nat),(by decide)⟩, .pf ⟨(bD a u0.bi.e1)=(bD a u0.bi.e1),rfl⟩, .pf ⟨[b].length=1,rfl⟩, .pf ⟨av 1 1 (iY 1 [.int .i64 b]) (aj (aG .i64) [b]),(by intro i hi j hj;match i,j,hi,hj with|0,0,_,_=>rfl)⟩, .e ((bD a u0.bi.e1).length),0,1, .pf ⟨((bD a u0.bi.e1)++[b]).length=(bD a u0.bi.e1).length+[b].length,b_⟩, .pf ⟨av ((bD a u0.bi.e1).length+[b].length) 1 (fQ (aj (aG .i64) (bD a u0.bi.e1)) (bD a u0.bi.e1).length (aj (aG .i64) [b])) (aj (aG .i64) ((bD a u0.bi.e1)++[b])),aP _ _ _ _⟩, .e (((bD a u0.bi.e1)++[b]).length), .e (((bD a u0.bi.e1)++[b]).length), .pf ⟨av (((bD a u0.bi.e1)++[b]).length) 1 (aj (aG .i64) ((bD a u0.bi.e1)++[b])) (uo ((bD a u0.bi.e1)++[b])),(fun _ _ _ _=>rfl)⟩, .pf ⟨∀n0 c0,(some (a,CV.own 13 false (bD a u0.bi.e1).length):Option (Int × CV))=some (n0,c0)->n0=a,(fun _ _ h=>by cases h;rfl)⟩]<| .e (⟨u0.ba,(⟨lJ a u1 u0.bi.e0,lJ a ((bD a u0.bi.e1)++[b]) u0.bi.e1⟩:aF)⟩:Graph))
  (.a1 (u3=1)<| .sj 3 u3 1 0<| .rg {an:=[(7, .gtk 16 (bD a u0.bi.e1))]} [.pf ⟨(0:Int)<=1/\(1:Int)<(2:Nat),(by decide)⟩, .pf ⟨(bD a u0.bi.e1)=(bD a u0.bi.e1),rfl⟩]<| .cr 2 ⟨fun{u4} hr_2=>((Fn.wC (frz:=[16]) (p:=[(bD a u0.bi.e1).length=(bD a u0.bi.e1).length]) (nW (bD a u0.bi.e1) b hr_2) (by kernel_rfl) ⟨rfl,trivial⟩ rfl):Fn Tryz.prog 169 [.one (.own 16 false ((bD a u0.bi.e1).length)),sI b] [(16,some (aX 3 1 (aG .i64) (bD a u0.bi.e1)))] (vI u4) [(16,some (aX 3 1 (aG .i64) (bD a u0.bi.e1)))])⟩ fun u4=> .r<| .cl 11 (iT [(0,16)] ⟨fun h=>vR (bD a u0.bi.e1) u4 (k13 u4) h⟩) fun u2=> .rg {an:=[(12, .gput u2)]} [.pf ⟨(0:Int)<=1/\(1:Int)<(2:Nat),(by decide)⟩,0, .e (u2.length), .e (u2.length), .pf ⟨av u2.length 1 (aj (aG .i64) u2) (uo u2),(fun _ _ _ _=>rfl)⟩, .pf ⟨∀n0 c0,(some (a,CV.own 16 false (bD a u0.bi.e1).length):Option (Int × CV))=some (n0,c0)->n0=a,(fun _ _ h=>by cases h;rfl)⟩]<| .a2 (((bD a u0.bi.e0).length+[b].length)*8<=140737488355328) ((bD a u0.bi.e0).length+[b].length<=4611686018427387904)<| .rg {an:=[(16, .gtk 17 (bD a u0.bi.e0)),(18, .arr [b].length (aj (aG .i64) [b])),(19, .arr (Hw u0 a b).length (Ud u0 a b)),(20, .gput (Hw u0 a b))],fr:=[(18,18),(19,19)]} [.pf ⟨(0:Int)<=0/\(0:Int)<(2:Nat),(by decide)⟩, .pf ⟨(0:Int)<=0/\(0:Int)<(2:Nat),(by decide)⟩, .pf ⟨(bD a u0.bi.e0)=(bD a u0.bi.e0),rfl⟩, .pf ⟨[b].length=1,rfl⟩, .pf ⟨av 1 1 (iY 1 [.int .i64 b]) (aj (aG .i64) [b]),(by intro i hi j hj;match i,j,hi,hj with|0,0,_,_=>rfl)⟩, .e ((bD a u0.bi.e0).length),0,1, .pf ⟨(Hw u0 a b).length=(bD a u0.bi.e0).length+[b].length,b_⟩, .pf ⟨av ((bD a u0.bi.e0).length+[b].length) 1 (fQ (aj (aG .i64) (bD a u0.bi.e0)) (bD a u0.bi.e0).length (aj (aG .i64) [b])) (Ud u0 a b),aP _ _ _ _⟩, .e (SL u0 a b), .e (SL u0 a b), .pf ⟨av (SL u0 a b) 1 (Ud u0 a b) (uo (Hw u0 a b)),(fun _ _ _ _=>rfl)⟩, .pf ⟨∀n0 c0,(some (a,CV.own 17 false (bD a u0.bi.e0).length):Option (Int × CV))=some (n0,c0)->n0=a,(fun _ _ h=>by cases h;rfl)⟩]<| .e (⟨u0.ba,(⟨lJ a (Hw u0 a b) u0.bi.e0,lJ a u2 u0.bi.e1⟩:aF)⟩:Graph)))
theorem lg (s_:List Int) (v_:Int):cu Tryz.prog 128 [sD (aN none 1 (aG .i64) s_),sI v_] [] (fun r=>(vB r)) (fun _=>[]) (gL s_ v_):=
  cZ tT mX Tryz.func128 (
  .r<| .cl 2 (nW s_ v_) fun r_=> .r<| .e (decide (0<=r_)))
section
variable (u1:Int) (o_:List (Int × Bool)) (u0:Graph) (o0:List (Int × Bool)) (u5:List (Int × (List Int))) (u6:List (Int × (List Int))) (r_:List Int) (u3:Int) (x:Int × List Int) (u2:List (Int × Bool))
abbrev aaX:List SV:=[sI u1,.one (.ptr 0 0),.one (.ptr 1 0),.one (.ptr 2 0)]
abbrev Zj:Nat × Option Ob:=(1,some (.cells 141 [.ptr 4 0]))
abbrev Yi:Nat × Option Ob:=(2,some (.cells 169 [.fn 125 0 3 (Wj [.ptr 0 0,.ptr 1 0,.ptr 2 0])]))
abbrev aaZ:Nat × Option Ob:=(3,some (MR 3 4 false false 1 1 (aG .i64) af o_))
abbrev YJ:Nat × Option Ob:=(4,some (.cells 195 [.own 5 false u0.ba.length,.mp 6,.mp 7]))
abbrev Yb:Nat × Option Ob:=(5,some (aX 84 2 Part.cell u0.ba))
abbrev abk:List (Nat × Option Ob):=[(0,some (.cells 198 [.mp 3])),Zj,Yi,aaZ o_,YJ u0,Yb u0,(6,some (.gm 3 36 3 u0.bi.e0 none)),(7,some (.gm 3 36 3 u0.bi.e1 none))]
abbrev ac5:List (Nat × Option Ob):=[aaZ o0,(6,some (.gm 3 36 3 u5 none)),(7,some (.gm 3 36 3 u6 none))]
abbrev XH:=(⟨u0.ba,(⟨u5,u6⟩:aF)⟩:Graph)
abbrev Zu:List CV:=[cB ((bC cK (at' r_ u3.toNat) o0).getD false)]
abbrev UK:List CV:=[cB ((bC cK x.1 u2).getD false)]
end
theorem qU (v2:Int->(List (Int × Bool))->Graph->Option (Bool × (List (Int × Bool)) × Graph)) (rec_ok: ∀(u1:Int) (o_:List (Int × Bool)) (u0:Graph) (r:Bool × (List (Int × Bool)) × Graph),v2 u1 o_ u0=some r->Fn Tryz.prog 125 (aaX u1) (abk o_ u0) ((fun r=>(vB r.1)) r) ((fun r=>[(0,some (.cells 198 [.mp 3])),Zj,Yi,(3,some (MR 3 4 false false 1 1 (aG .i64) af r.2.1)),YJ u0,Yb u0,(6,some (.gm 3 36 3 r.2.2.bi.e0 none)),(7,some (.gm 3 36 3 r.2.2.bi.e1 none))]) r)) (u1:Int) (o_:List (Int × Bool)) (u0:Graph):cu Tryz.prog 125 (aaX u1) (abk o_ u0) (fun r=>(vB r.1)) (fun r=>[(0,some (.cells 198 [.mp 3])),Zj,Yi,(3,some (MR 3 4 false false 1 1 (aG .i64) af r.2.1)),YJ u0,Yb u0,(6,some (.gm 3 36 3 r.2.2.bi.e0 none)),(7,some (.gm 3 36 3 r.2.2.bi.e1 none))]) (mg v2 u1 o_ u0):=
  cZ tT mX Tryz.func125 (
  .r<| .r<| .it (.r<| .e (true,o_,u0))
  (.rg {an:=[(2, .map (iC cK u1 true o_).length (zO (aG .i64) (iC cK u1 true o_)) (Al af (iC cK u1 true o_)) [])]} [.pf ⟨sO [some .i64] 1 1 o_.length (zO (aG .i64) o_) (Al af o_) [.int .i64 u1] [cB true] [] (iC cK u1 true o_).length (zO (aG .i64) (iC cK u1 true o_)) (Al af (iC cK u1 true o_)),Jo (fun _=>rfl) (fun _ _=>rfl) o_ u1 true rfl rfl⟩]<| .cl 7 ⟨fun{r_} hr_=>((Fn.qx (args:=[sD (aN none 1 (aG .i64) (bD u1 u0.bi.e0))]) (frz:=[12]) (p:=[(bD u1 u0.bi.e0).length=(bD u1 u0.bi.e0).length]) (Fn.yu [(0,13)] (yS (bD u1 u0.bi.e0) hr_) (by kernel_rfl) (by kernel_rfl) (by kernel_rfl) (by kernel_rfl)) (by kernel_rfl) ⟨rfl,trivial⟩ (by kernel_rfl) ⟨(fun _ _=>rfl),trivial⟩ (by kernel_rfl)):Fn Tryz.prog 126 [.one (.own 12 false ((bD u1 u0.bi.e0).length))] (aaJ u0 u1) (vO 13 false r_.length) [(12,some (aX 3 1 (aG .i64) (bD u1 u0.bi.e0))),(13,some (Cy r_))])⟩ fun r_=> .rg {an:=[(6, .gtk 12 (bD u1 u0.bi.e0))],fz:=[13]} [.pf ⟨(0:Int)<=0/\(0:Int)<(2:Nat),(by decide)⟩, .pf ⟨(bD u1 u0.bi.e0)=(bD u1 u0.bi.e0),rfl⟩,0]<| .im (.gf 6 12 3 36 3 u0.bi.e0 u1 false ((bD u1 u0.bi.e0).length) ((bD u1 u0.bi.e0).length) (aj (aG .i64) (bD u1 u0.bi.e0)) rfl rfl (fun _ _ _ _=>rfl))<| .lp (σ:=((List (Int × Bool)) × (List (Int × (List Int))) × (List (Int × (List Int))) × Int)) (β:=((List (Int × Bool)) × (List (Int × (List Int))) × (List (Int × (List Int))))) (iC cK u1 true o_,u0.bi.e0,u0.bi.e1,0) [] [] ⟨[0,1,2,3,21,22],[0,1,2,4,5],fun(o0,u5,u6,u3)=>[(23,vI u3)],fun(o0,u5,u6,u3)=>(ac5 o0 u5 u6)⟩ ⟨[0,1,2,3],[0,1,2,4,5],fun(v0,v1,u4)=>[],fun(v0,v1,u4)=>(ac5 v0 v1 u4)⟩
  (fun(o0,u5,u6,u3)=> .r<| .it (.a1 ((0:Int)<=u3/\u3<(r_.length:Int))<| .r<| .fk (!((bC cK (at' r_ u3.toNat) o0).getD false)) (.cl 7 ⟨fun h=>rec_ok (at' r_ u3.toNat) o0 (XH u0 u5 u6) _ h⟩ fun u9=> .rg {an:=[(2, .look (bC cK (at' r_ u3.toNat) o0).isSome (Zu o0 r_ u3))],ov:=[(4,true,1)]} [.pf ⟨lK [some .i64] 1 1 o0.length (zO (aG .i64) o0) (Al af o0) [.int .i64 (at' r_ u3.toNat)] [.d (.bool false)] (bC cK (at' r_ u3.toNat) o0).isSome (Zu o0 r_ u3),mD (fun _=>rfl) (fun _ _=>rfl) o0 (at' r_ u3.toNat) false rfl rfl rfl⟩, .k 0]<| .it (.cl 3 (iT [(0,4),(1,5),(2,6),(3,7)] (qZ u1 (at' r_ u3.toNat) 0 (⟨u0.ba,u9.2.2.bi⟩:Graph))) fun v4=> .r<| .r<| .e (.done (.ret (true,u9.2.1,(⟨u0.ba,v4.bi⟩:Graph)))))
  (.r<| .e (.next (u9.2.1,u9.2.2.bi.e0,u9.2.2.bi.e1,k13 u3))))
  (.rg {an:=[(2, .look (bC cK (at' r_ u3.toNat) o0).isSome (Zu o0 r_ u3))],ov:=[(4,false,0)],sk:=[5,6,7]} [.pf ⟨lK [some .i64] 1 1 o0.length (zO (aG .i64) o0) (Al af o0) [.int .i64 (at' r_ u3.toNat)] [.d (.bool false)] (bC cK (at' r_ u3.toNat) o0).isSome (Zu o0 r_ u3),mD (fun _=>rfl) (fun _ _=>rfl) o0 (at' r_ u3.toNat) false rfl rfl rfl⟩]<| .f<| .r<| .e (.next (o0,u5,u6,k13 u3))))
  (.e (.done (.brk (o0,u5,u6)))))
  (fun(v0,v1,u4)=> .gr (σ:=((List (Int × Bool)) × (List (Int × (List Int))))) 7 14 15 3 36 3 u4 (nP u1) (jm v2 u1 u0 u4) (by intro x hx z;obtain⟨_,_⟩:=z;dsimp only [jm];exact aaw hx rfl) {} [.pf ⟨(0:Int)<=1/\(1:Int)<(2:Nat),(by decide)⟩] ⟨[0,1,2,3,46],[0,1,2,4,5,7,14],fun(u2,u7)=>[],fun(u2,u7)=>[aaZ u2,(6,some (.gm 3 36 3 u7 none))]⟩ (v0,v1) [] [] (fun x=>fun(u2,u7)=> .fk (bif (!((bC cK x.1 u2).getD false))then(!decide (x.1=(-1)))else false) (.cG 11 7 15 ⟨fun{v3} hr_3=>((Fn.wC (frz:=[15]) (p:=[x.2.length=x.2.length]) (lg x.2 u1 hr_3) (by kernel_rfl) ⟨rfl,trivial⟩ rfl):Fn Tryz.prog 128 [.one (.own 15 false x.2.length),sI u1] [(15,some (aX 3 1 (aG .i64) x.2))] (vB v3) [(15,some (aX 3 1 (aG .i64) x.2))])⟩ fun v3=> .fk v3 (.cl 16 ⟨fun h=>rec_ok x.1 u2 (XH u0 u7 u4) _ h⟩ fun u8=> .rg {an:=[(2, .look (bC cK x.1 u2).isSome (UK x u2))],ov:=[(8,true,3),(13,true,1)]} [.pf ⟨lK [some .i64] 1 1 u2.length (zO (aG .i64) u2) (Al af u2) [.int .i64 x.1] [.d (.bool false)] (bC cK x.1 u2).isSome (UK x u2),mD (fun _=>rfl) (fun _ _=>rfl) u2 x.1 false rfl rfl rfl⟩, .e (x.2.length), .dk 4 ⟨(bD x.1 u4)=x.2,x.2.length=(bD x.1 u4).length,fun ax=>(by rw [ax])⟩, .dk 4 ⟨(bD x.1 u4)=x.2,av x.2.length 1 (aj (aG .i64) x.2) (uo (bD x.1 u4)),fun ax=>(by rw [ax];exact fun _ _ _ _=>rfl)⟩, .k 2, .k 0]<| .it (.cl 3 (iT [(0,4),(1,5),(2,6),(3,7)] (qZ x.1 u1 1 (⟨u0.ba,u8.2.2.bi⟩:Graph))) fun v5=> .r<| .r<| .e (.done (.ret (true,u8.2.1,(⟨u0.ba,v5.bi⟩:Graph)))))
  (.a1 (u8.2.2.bi.e1=u4)<| .ge 7 3 36 3 u8.2.2.bi.e1 u4 0<| .e (.next (u8.2.1,u8.2.2.bi.e0))))
  (.rg {an:=[(2, .look (bC cK x.1 u2).isSome (UK x u2))],ov:=[(8,true,2),(13,false,0)],sk:=[14,15,16]} [.pf ⟨lK [some .i64] 1 1 u2.length (zO (aG .i64) u2) (Al af u2) [.int .i64 x.1] [.d (.bool false)] (bC cK x.1 u2).isSome (UK x u2),mD (fun _=>rfl) (fun _ _=>rfl) u2 x.1 false rfl rfl rfl⟩, .e (x.2.length), .dk 3 ⟨(bD x.1 u4)=x.2,x.2.length=(bD x.1 u4).length,fun ax=>(by rw [ax])⟩, .dk 3 ⟨(bD x.1 u4)=x.2,av x.2.length 1 (aj (aG .i64) x.2) (uo (bD x.1 u4)),fun ax=>(by rw [ax];exact fun _ _ _ _=>rfl)⟩, .k 1]<| .f<| .e (.next (u2,u7))))
  (.rg {an:=[(2, .look (bC cK x.1 u2).isSome (UK x u2))],ov:=[(8,false,0)],sk:=[9,10,11,14,15,16]} [.pf ⟨lK [some .i64] 1 1 u2.length (zO (aG .i64) u2) (Al af u2) [.int .i64 x.1] [.d (.bool false)] (bC cK x.1 u2).isSome (UK x u2),mD (fun _=>rfl) (fun _ _=>rfl) u2 x.1 false rfl rfl rfl⟩]<| .gh 7 15 3 36 3 u4 x.1 x.2 false x.2.length x.2.length (aj (aG .i64) x.2) rfl rfl (fun _ _ _ _=>rfl) 1<| .f<| .e (.next (u2,u7))))
  (fun(v6,v7)=> .r<| .e (false,v6,XH u0 v7 u4)))))
theorem nI: ∀(n:Nat) (u1:Int) (o_:List (Int × Bool)) (u0:Graph),cu Tryz.prog 125 (aaX u1) (abk o_ u0) (fun r=>(vB r.1)) (fun r=>[(0,some (.cells 198 [.mp 3])),Zj,Yi,(3,some (MR 3 4 false false 1 1 (aG .i64) af r.2.1)),YJ u0,Yb u0,(6,some (.gm 3 36 3 r.2.2.bi.e0 none)),(7,some (.gm 3 36 3 r.2.2.bi.e1 none))]) (gQ n u1 o_ u0)
 |0,_,_,_=> ⟨fun h=>by cases h⟩
 |n+1,u1,o_,u0=>qU (gQ n) (fun u1 o_ u0 _ h=>nI n u1 o_ u0 h) u1 o_ u0
theorem xL (u0:Graph):cu Tryz.prog 71 [.one (.ptr 0 0)] (ad2 u0) (fun r=>(vB r.1)) (fun r=>[ZJ u0,XW u0,(2,some (.gm 3 36 3 r.2.bi.e0 none)),(3,some (.gm 3 36 3 r.2.bi.e1 none))]) (qX u0):=
  cZ tT mX Tryz.func71 (
  .rg {fr:=[(0,8)]} []<| .rg {an:=[(0, .map 0 (zO (aG .i64) ([]:(List (Int × Bool)))) (Al af ([]:(List (Int × Bool)))) [])],fr:=[(0,9),(1,10)]} []<| .rg {fr:=[(0,11)]} []<| .r<| .cl 1 (iT [(0,10),(1,8),(2,11),(3,9),(4,0),(5,1),(6,2),(7,3)] (nI FUEL (-1) ([]:(List (Int × Bool))) u0)) fun r_=> .r<| .e (r_.1,(⟨u0.ba,r_.2.2.bi⟩:Graph)))
section
variable (u0:Graph) (u3:List (List Part)) (u1:Int) (u4:List Part) (u2:List Part)
abbrev acK:List (Nat × Option Ob):=[ZJ u0,XW u0,(2,some (MR 3 36 false false 1 1 (aG .i64) (wu 1 (aG .i64)) u0.bi.e0)),(3,some (MR 3 36 false false 1 1 (aG .i64) (wu 1 (aG .i64)) u0.bi.e1))]
abbrev Ai:Ob:=(aX 48 1 (wu 2 Part.cell) u3)
abbrev Km:=(at' u0.ba ((IntKind.wrap .i64 (Int.tdiv u1 2)).toNat))
abbrev aan:=(aj Part.cell [Km u0 u1])
abbrev Xw:=(u4++[Km u0 u1])
abbrev aaD:=((bC cK (k13 u1) u0.bi.e1).getD ([]:List Int))
abbrev adg:List CV:=[.d (aN none 1 (aG .i64) (aaD u0 u1))]
abbrev Jk:=(aj (wu 2 Part.cell) [u2])
abbrev NU:=(aj (wu 2 Part.cell) u3)
end
theorem zX (u0:Graph):cu Tryz.prog 72 [.one (.ptr 0 0)] (acK u0) (fun r=>(vD (aN none 1 (wu 2 Part.cell) r))) (fun r=>(acK u0)) (wo u0):=
  cZ tT mX Tryz.func72 (
  .r<| .r<| .rg {an:=[(5, .look (bC cK (-1) u0.bi.e1).isSome [.d (aN none 1 (aG .i64) ((bC cK (-1) u0.bi.e1).getD ([]:List Int)))])]} [.pf ⟨(0:Int)<=1/\(1:Int)<(2:Nat),(by decide)⟩, .pf ⟨lK [some .i64] 1 1 u0.bi.e1.length (zO (aG .i64) u0.bi.e1) (Al (wu 1 (aG .i64)) u0.bi.e1) [.int .i64 (-1)] [.d nS] (bC cK (-1) u0.bi.e1).isSome [.d (aN none 1 (aG .i64) ((bC cK (-1) u0.bi.e1).getD ([]:List Int)))],Dy (fun _=>rfl) (fun _ _=>rfl) u0.bi.e1 (-1) ([]:List Int) rfl (PN.slice _ _ _) rfl⟩]<| .im (.ad 3 85 48 1 (aj (wu 2 Part.cell) ([]:List (List Part))))<| .lp (σ:=((List (List Part)) × Int)) (β:=(List (List Part))) (([]:List (List Part)),0) [] [(85,53)] ⟨[0,12,13],[0,1,2,3],fun(u3,u5)=>[(3,vO 53 false u3.length),(14,vI u5)],fun(u3,u5)=>[(53,some (Ai u3))]⟩ ⟨[],[0,1,2,3],fun u6=>[(3,vO 53 false u6.length)],fun u6=>[(53,some (Ai u6))]⟩
  (fun(u3,u5)=> .r<| .it (.a1 ((0:Int)<=u5/\u5<(((bC cK (-1) u0.bi.e1).getD ([]:List Int)).length:Int))<| .r<| .r<| .im (.ad 6 82 84 2 (aj Part.cell ([]:List Part)))<| .lp (σ:=(Int × (List Part))) (β:=(List Part)) (at' ((bC cK (-1) u0.bi.e1).getD ([]:List Int)) u5.toNat,([]:List Part)) [] [(82,75)] ⟨[0,3,12,13,14],[0,1,2,3,53],fun(u1,u4)=>[(5,vI u1),(6,vO 75 false u4.length)],fun(u1,u4)=>[(75,some (aX 84 2 Part.cell u4))]⟩ ⟨[0,3,12,13,14],[0,1,2,3,53],fun u2=>[(6,vO 75 false u2.length)],fun u2=>[(75,some (aX 84 2 Part.cell u2))]⟩
  (fun(u1,u4)=> .r<| .it (.a4 (2≠(0:Int)) ((0:Int)<=(IntKind.wrap .i64 (Int.tdiv u1 2))/\(IntKind.wrap .i64 (Int.tdiv u1 2))<(u0.ba.length:Int)) ((u4.length+[Km u0 u1].length)*16<=140737488355328) (u4.length+[Km u0 u1].length<=4611686018427387904)<| .rg {an:=[(9, .arr [Km u0 u1].length (aan u0 u1)),(10, .arr (Xw u0 u1 u4).length (aj Part.cell (Xw u0 u1 u4)))],fr:=[(9,80),(10,81)]} [0,1, .t 1 (IntKind.wrap .i64 (Int.tdiv u1 2)) u0.ba.length, .pf ⟨[Km u0 u1].length=1,rfl⟩, .pf ⟨av 1 2 (iY 2 [.int .i64 ((Km u0 u1).kind),.int .i64 ((Km u0 u1).index)]) (aan u0 u1),(by intro i hi j hj;match i,j,hi,hj with|0,0,_,_=>rfl|0,1,_,_=>rfl)⟩, .e (u4.length),2,3, .pf ⟨(Xw u0 u1 u4).length=u4.length+[Km u0 u1].length,b_⟩, .pf ⟨av (u4.length+[Km u0 u1].length) 2 (fQ (aj Part.cell u4) u4.length (aan u0 u1)) (aj Part.cell (Xw u0 u1 u4)),aP _ _ _ _⟩]<| .a1 ((0:Int)<=0/\0<((aaD u0 u1).length:Int))<| .rg {an:=[(7, .look (bC cK (k13 u1) u0.bi.e1).isSome (adg u0 u1))]} [.pf ⟨(0:Int)<=1/\(1:Int)<(2:Nat),(by decide)⟩, .pf ⟨lK [some .i64] 1 1 u0.bi.e1.length (zO (aG .i64) u0.bi.e1) (Al (wu 1 (aG .i64)) u0.bi.e1) [.int .i64 (k13 u1)] [.d nS] (bC cK (k13 u1) u0.bi.e1).isSome (adg u0 u1),Dy (fun _=>rfl) (fun _ _=>rfl) u0.bi.e1 (k13 u1) ([]:List Int) rfl (PN.slice _ _ _) rfl⟩,0]<| .en (.next (at' (aaD u0 u1) 0,Xw u0 u1 u4)) [] [(81,75)])
  (.e (.done (.brk u4))))
  (fun u2=> .fz [75]<| .a2 ((u3.length+[u2].length)*24<=140737488355328) (u3.length+[u2].length<=4611686018427387904)<| .rg {an:=[(2, .arr [u2].length (Jk u2)),(3, .arr (u3++[u2]).length (aj (wu 2 Part.cell) (u3++[u2])))],fr:=[(2,83),(3,84)]} [.pf ⟨[u2].length=1,rfl⟩, .pf ⟨av 1 1 (iY 1 [FM u2]) (Jk u2),(by intro i hi j hj;match i,j,hi,hj with|0,0,_,_=>rfl)⟩, .e (u3.length),0,1, .pf ⟨(u3++[u2]).length=u3.length+[u2].length,b_⟩, .pf ⟨av (u3.length+[u2].length) 1 (fQ (NU u3) u3.length (Jk u2)) (aj (wu 2 Part.cell) (u3++[u2])),aP _ _ _ _⟩]<| .r<| .en (.next (u3++[u2],k13 u5)) [] [(84,53)]))
  (.e (.done (.brk u3))))
  (fun u6=> .rg {fz:=[53]} []<| .e u6))
theorem zq (p:ah) (s_:State) (u2:Int):cu Tryz.prog 30 (EY p s_ u2) [] (fun r=>(.dV [sD (aN none 1 (wu 2 Part.cell) r.1),sI r.2])) (fun _=>[]) (yT p s_ u2):=
  cZ tT mX Tryz.func30 (
  .rg {fr:=[(0,6),(1,7)],fz:=[6,7]} []<| .cl 3 (nJ p s_ u2) fun r_=> .r<| .r<| .it (.r<| .e (([]:List (List Part)),r_))
  (.cl 3 (iT [(0,8),(1,9),(2,10),(3,11)] (Ad p s_ u2)) fun u3=> .r<| .r<| .lp (σ:=((List (Int × (List Int))) × (List (Int × (List Int))) × Int)) (β:=((List (Int × (List Int))) × (List (Int × (List Int))))) (u3.bi.e0,u3.bi.e1,0) [] [] ⟨[9],[8,9],fun(g1,g2,u4)=>[(21,vI u4)],fun(g1,g2,u4)=>[(10,some (.gm 3 36 3 g1 none)),(11,some (.gm 3 36 3 g2 none))]⟩ ⟨[9],[8,9],fun(u0,u1)=>[],fun(u0,u1)=>[(10,some (.gm 3 36 3 u0 none)),(11,some (.gm 3 36 3 u1 none))]⟩
  (fun(g1,g2,u4)=> .r<| .it (.cl 1 (iT [(0,8),(1,9),(2,10),(3,11)] (xL (XH u3 g1 g2))) fun u5=> .r<| .it (.e (.done (.brk (u5.2.bi.e0,u5.2.bi.e1))))
  (.r<| .e (.next (u5.2.bi.e0,u5.2.bi.e1,k13 u4))))
  (.e (.done (.brk (g1,g2)))))
  (fun(u0,u1)=> .im (.gz 10 3 36 3 u0)<| .im (.gz 11 3 36 3 u1)<| .cr 1 (iT [(0,8),(1,9),(2,10),(3,11)] (zX (XH u3 u0 u1))) fun u6=> .r<| .e (u6,0))))
theorem o6 (p:ah) (s_:State) (u0:Int):cu Tryz.prog 28 (EY p s_ u0) [] (fun r=>(.dV [sI r.1,sI r.2])) (fun _=>[]) (om p s_ u0):=
  cZ tT mX Tryz.func28 (
  .rg {fr:=[(0,2),(1,3)],fz:=[2,3]} []<| .cl 3 (zq p s_ u0) fun r_=> .r<| .r<| .e ((r_.1.length:Int),r_.2))
theorem DW (p:ah) (s_:State):cu Tryz.prog 14 (k24 s_ p) [] (fun r=>(.dV [sD (aN none 1 af r.1),sI r.2])) (fun _=>[]) (dU p s_):=
  cZ tT mX Tryz.func14 (
  .rg {fr:=[(0,7),(1,8)],fz:=[7,8]} []<| .cl 2 (dZ p s_) fun r_=> .r<| .r<| .it (.r<| .e (([]:List Bool),r_))
  (.a3 ((0:Int)<=p.ar) (k90 p) (k91 p)<| .rg {an:=[(2, .arr (Gs p).length (Si p))],fr:=[(2,9)]} [0, .e ((p.ar:Int)),1,2, .pf ⟨(Gs p).length=p.ar.toNat,dj⟩, .pf ⟨av p.ar.toNat 1 (fun _ j=>[.bool false].getD j .nilp) (Si p),gV _ _ _ _ _ (fun j hj=>(match j,hj with|0,_=>rfl))⟩]<| .cl 2 (pY p s_) fun u1=> .r<| .lp (σ:=((List Bool) × Int)) (β:=(List Bool)) (Gs p,0) [] [] ⟨[23,24],[],fun(u4,u0)=>[(7,vO 9 true u4.length),(25,vI u0)],fun(u4,u0)=>[(9,some (aX 4 1 af u4))]⟩ ⟨[],[],fun u5=>[(7,vO 9 true u5.length)],fun u5=>[(9,some (aX 4 1 af u5))]⟩
  (fun(u4,u0)=> .r<| .it (.a1 ((0:Int)<=u0/\u0<(u1.length:Int))<| .rg {fr:=[(2,13)]} []<| .rg {fz:=[13]} []<| .lp (σ:=((List Bool) × Int)) (β:=(List Bool)) (u4,0) [] [] ⟨[9,23,24,25,30,31],[],fun(u2,u3)=>[(7,vO 9 true u2.length),(32,vI u3)],fun(u2,u3)=>[(9,some (aX 4 1 af u2))]⟩ ⟨[23,24,25],[],fun u6=>[(7,vO 9 true u6.length)],fun u6=>[(9,some (aX 4 1 af u6))]⟩
  (fun(u2,u3)=> .r<| .it (.a1 ((0:Int)<=u3/\u3<(((at' u1 u0.toNat).ar).length:Int))<| .r<| .a1 (k94 u1 u0 u3 u2)<| .rg {an:=[(7, .arr 0 (k96 u1 u0 u3 u2))]} [0, .t 0 (k95 u1 u0 u3) u2.length, .pf ⟨av u2.length 1 (k98 u1 u0 u3 u2) (k96 u1 u0 u3 u2),aQ _ _ _ _ _ _ _ _ rfl (fun j hj=>(match j,hj with|0,_=>rfl))⟩]<| .im (.ll 9 u2 (k97 u1 u0 u3 u2))<| .r<| .e (.next (k99 u1 u0 u3 u2)))
  (.e (.done (.brk u2))))
  (fun u6=> .r<| .e (.next (Kq u0 u6))))
  (.e (.done (.brk u4))))
  (fun u5=> .rg {fz:=[9]} []<| .e (u5,0))))
section
variable (p:ah) (u0:Int) (r_:(List Bool) × Int) (u1:List aS)
abbrev adj:=(bif (decide (0<=(KD p u0)))then(at' r_.1 ((KD p u0).toNat))else false)
abbrev aey:=(bif (decide (0<=(Mf p u0)))then(at' r_.1 ((Mf p u0).toNat))else false)
abbrev Rb:=(⟨adj p u0 r_,aey p u0 r_⟩:aS)
abbrev aci:=(u1.length+[Rb p u0 r_].length)
abbrev aas:=(aj aS.cell [Rb p u0 r_])
abbrev YW:=(u1++[Rb p u0 r_])
abbrev ad8:=(aj aS.cell (YW p u0 r_ u1))
end
theorem Jt (p:ah) (s_:State):cu Tryz.prog 43 (k24 s_ p) [] (fun r=>(.dV [sD (aN none 2 aS.cell r.1),sI r.2])) (fun _=>[]) (wL p s_):=
  cZ tT mX Tryz.func43 (
  .rg {fr:=[(0,18),(1,19)],fz:=[19]} []<| .cl 2 (DW p s_) fun r_=> .r<| .r<| .it (.r<| .e (([]:List aS),r_.2))
  (.r<| .r<| .im (.ad 8 36 95 2 (aj aS.cell ([]:List aS)))<| .lp (σ:=((List aS) × Int)) (β:=(List aS)) (([]:List aS),0) [] [(36,23)] ⟨[6,24,25],[],fun(u1,u0)=>[(8,vO 23 false u1.length),(26,vI u0)],fun(u1,u0)=>[(23,some (aX 95 2 aS.cell u1))]⟩ ⟨[],[],fun u2=>[(8,vO 23 false u2.length)],fun u2=>[(23,some (aX 95 2 aS.cell u2))]⟩
  (fun(u1,u0)=> .r<| .it (.a1 (JC p u0)<| .rg {fr:=[(2,32)],fz:=[32]} []<| .rg {fr:=[(0,33)]} []<| .r<| .ul 11<| .r<| .t<| .rg {an:=[(1, .vals [.int .i64 (KD p u0)])]} [.pf ⟨(0:Int)<=0/\(0:Int)<(2:Nat),(by decide)⟩, .pf ⟨0*1+1<=(TL p u0).length,cj rfl⟩, .pf ⟨((TL p u0).drop (0*1)).take 1=[.int .i64 (KD p u0)].map .d,rfl⟩]<| .a1 ((gB [(decide (0<=(KD p u0)),true)]=true->(0:Int)<=(r9 p u0).e0/\(r9 p u0).e0<(r_.1.length:Int)))<| .rg {} [0, .pf ⟨(0:Int)<=0/\(0:Int)<(2:Nat),(by decide)⟩]<| .r<| .im (.dp [6,8,11,24,25,26,31,32])<| .r<| .t<| .rg {an:=[(1, .vals [.int .i64 (Mf p u0)])]} [.pf ⟨(0:Int)<=1/\(1:Int)<(2:Nat),(by decide)⟩, .pf ⟨1*1+1<=(TL p u0).length,cj rfl⟩, .pf ⟨((TL p u0).drop (1*1)).take 1=[.int .i64 (Mf p u0)].map .d,rfl⟩]<| .a1 ((gB [(decide (0<=(Mf p u0)),true)]=true->(0:Int)<=(r9 p u0).e1/\(r9 p u0).e1<(r_.1.length:Int)))<| .rg {} [0, .pf ⟨(0:Int)<=1/\(1:Int)<(2:Nat),(by decide)⟩]<| .r<| .im (.dp [6,8,11,24,25,26,31,32])<| .r<| .f<| .a2 ((aci p u0 r_ u1)*2<=140737488355328) (u1.length+[Rb p u0 r_].length<=4611686018427387904)<| .rg {an:=[(2, .arr [Rb p u0 r_].length (aas p u0 r_)),(3, .arr (YW p u0 r_ u1).length (ad8 p u0 r_ u1))],fr:=[(2,34),(3,35)]} [.pf ⟨[Rb p u0 r_].length=1,rfl⟩, .pf ⟨av 1 2 (iY 2 [.bool (adj p u0 r_),.bool (aey p u0 r_)]) (aas p u0 r_),(by intro i hi j hj;match i,j,hi,hj with|0,0,_,_=>rfl|0,1,_,_=>rfl)⟩, .e (u1.length),0,1, .pf ⟨(YW p u0 r_ u1).length=u1.length+[Rb p u0 r_].length,b_⟩, .pf ⟨av (aci p u0 r_ u1) 2 (fQ (aj aS.cell u1) u1.length (aas p u0 r_)) (ad8 p u0 r_ u1),aP _ _ _ _⟩]<| .r<| .en (.next (YW p u0 r_ u1,k13 u0)) [] [(35,23)])
  (.e (.done (.brk u1))))
  (fun u2=> .rg {fz:=[23]} []<| .e (u2,0))))
theorem kT (p:ah) (s_:State) (u0:Int):cu Tryz.prog 60 (EY p s_ u0) [] (fun r=>(vB r)) (fun _=>[]) (lu p s_ u0):=
  cZ tT mX Tryz.func60 (
  .rg {fr:=[(0,2),(1,3)],fz:=[2,3]} []<| .cl 2 (Jt p s_) fun r_=> .r<| .a2 ((0:Int)<=u0/\u0<(r_.1.length:Int)) ((gB [((at' r_.1 u0.toNat).e0,false)]=true->(0:Int)<=u0/\u0<(r_.1.length:Int)))<| .rg {} [0, .pf ⟨(0:Int)<=0/\(0:Int)<(2:Nat),(by decide)⟩,1, .pf ⟨(0:Int)<=1/\(1:Int)<(2:Nat),(by decide)⟩]<| .e (bif (at' r_.1 u0.toNat).e0 then true else(at' r_.1 u0.toNat).e1))
theorem EB (s_:State) (x:Part):cu Tryz.prog 133 [.agg (k25 s_),.agg (TY x)] [] (fun r=>(vB r)) (fun _=>[]) (nX s_ x):=
  cZ tT mX Tryz.func133 (
  .rg {fr:=[(0,3),(1,4)],fz:=[3,4]} []<| .a2 ((0:Int)<=x.kind/\x.kind<([([]:List Bool),s_.al,s_.ae,s_.ag].length:Int)) ((0:Int)<=x.index/\x.index<((at' [([]:List Bool),s_.al,s_.ae,s_.ag] x.kind.toNat).length:Int))<| .rg {an:=[(6, .arrL [([]:List Bool),s_.al,s_.ae,s_.ag].length (aj (wu 1 af) [([]:List Bool),s_.al,s_.ae,s_.ag]))],fr:=[(6,5)]} [.pf ⟨[([]:List Bool),s_.al,s_.ae,s_.ag].length=4,rfl⟩, .pf ⟨Wq 4 1 (iY 1 [nS,aN none 1 af s_.al,k26 s_,aN none 1 af s_.ag]) (aj (wu 1 af) [([]:List Bool),s_.al,s_.ae,s_.ag]),Vx (by intro i hi j hj;match i,j,hi,hj with|0,0,_,_=>exact bO.nil'|1,0,_,_=>exact .refl _|2,0,_,_=>exact .refl _|3,0,_,_=>exact .refl _)⟩,0, .t 0 x.kind ([([]:List Bool),s_.al,s_.ae,s_.ag].length),1]<| .e (at' (at' [([]:List Bool),s_.al,s_.ae,s_.ag] x.kind.toNat) x.index.toNat))
theorem vK (x:Part) (x1:List Bool) (u0:List Bool) (u1:List Bool) (u2:List Bool) (u3:List Bool) (u4:List Bool) (u5:List Bool):cu Tryz.prog 132 [.agg (TY x),sD (Z6 x1 u0 u1 u2 u3 u4 u5)] [] (fun r=>(vB r)) (fun _=>[]) (l9 x x1 u0 u1 u2 u3 u4 u5):=
  cZ tT mX Tryz.func132 (
  .rg {fr:=[(0,1)],fz:=[1]} []<| .cl 2 (EB (Ng x1 u0 u1 u2 u3 u4 u5) x) fun r_=> .r<| .e r_)
section
variable (s_:List Part) (f_:List Bool) (u0:List Bool) (u1:List Bool) (u2:List Bool) (u3:List Bool) (u4:List Bool) (u5:List Bool)
abbrev acf:List SV:=[.one (.own 0 false s_.length),sD (.fn 132 1 (z8 [Z6 f_ u0 u1 u2 u3 u4 u5]))]
abbrev BD:List (Nat × Option Ob):=[(0,some (aX 84 2 Part.cell s_))]
end
theorem xB (s_:List Part) (f_:List Bool) (u0:List Bool) (u1:List Bool) (u2:List Bool) (u3:List Bool) (u4:List Bool) (u5:List Bool):cu Tryz.prog 131 (acf s_ f_ u0 u1 u2 u3 u4 u5) (BD s_) (fun r=>(vI r)) (fun r=>(BD s_)) (jw s_ f_ u0 u1 u2 u3 u4 u5):=
  cZ tT mX Tryz.func131 (
  .r<| .r<| .lp (σ:=Int) (β:=Unit) (0) [] [] ⟨[0,1,7],[0],fun t8=>[(8,vI t8)],fun t8=>[]⟩ ⟨[],[0],fun _=>[],fun _=>[]⟩
  (fun t8=> .r<| .it (.r<| .cl 5 (vK (at' s_ t8.toNat) f_ u0 u1 u2 u3 u4 u5) fun r_=> .a1 (rC s_ t8)<| .rg {} [0, .t 0 t8 s_.length,1]<| .it (.r<| .e (.done (.ret t8)))
  (.r<| .e (.next (k13 t8))))
  (.e (.done (.brk ()))))
  (fun _=> .r<| .e (-1)))
section
variable (o_:List Part) (i:Int) (j:Int) (u0:List Part) (i1:Int)
abbrev Yx:=(aj Part.cell (o_.set i.toNat (at' o_ j.toNat)))
abbrev aeC:=(fe (aj Part.cell o_) i.toNat 0 [.int .i64 ((at' o_ j.toNat).kind),.int .i64 ((at' o_ j.toNat).index)])
abbrev KG:=(Cg u0 i1.toNat (⟨0,0⟩:Part))
abbrev Y8:=(aj Part.cell (KG u0 i1))
abbrev Rs:=((KG u0 i1).take i1.toNat)
abbrev Yh:=(aj Part.cell (Rs u0 i1))
end
theorem wD (s_:List Part) (u1:List Bool) (u2:List Bool) (u3:List Bool) (u4:List Bool) (u5:List Bool) (u6:List Bool) (u7:List Bool):cu Tryz.prog 74 (acf s_ u1 u2 u3 u4 u5 u6 u7) (BD s_) (fun r=>(vO 1 false r.length)) (fun r=>[(0,none),(1,some (aX 84 2 Part.cell r))]) (iM s_ u1 u2 u3 u4 u5 u6 u7):=
  cZ tT mX Tryz.func74 (
  .r<| .cr 2 (xB s_ u1 u2 u3 u4 u5 u6 u7) fun r_=> .r<| .r<| .it (.r<| .im (.rs 4 0 7)<| .en s_ [] [(7,1)])
  (.r<| .lp (σ:=((List Part) × Int × Int)) (β:=((List Part) × Int)) (s_,r_,k13 r_) [] [] ⟨[1],[],fun(o_,i,j)=>[(0,vO 0 false o_.length),(5,vI i),(6,vI j)],fun(o_,i,j)=>(BD o_)⟩ ⟨[],[],fun(u0,i1)=>[(0,vO 0 false u0.length),(5,vI i1)],fun(u0,i1)=>(BD u0)⟩
  (fun(o_,i,j)=> .r<| .it (.a1 (rC o_ j)<| .rg {fr:=[(4,11)],fz:=[11]} [0, .t 0 j o_.length]<| .cl 2 (vK (at' o_ j.toNat) u1 u2 u3 u4 u5 u6 u7) fun u8=> .r<| .it (.a1 (rC o_ i)<| .rg {an:=[(4, .arr 0 (Yx o_ i j))]} [0, .t 0 i o_.length, .pf ⟨av o_.length 2 (aeC o_ i j) (Yx o_ i j),aQ _ _ _ _ _ _ _ _ rfl (fun j hj=>(match j,hj with|0,_=>rfl|1,_=>rfl))⟩]<| .im (.ll 0 o_ (o_.set i.toNat (at' o_ j.toNat)))<| .r<| .r<| .e (.next (o_.set i.toNat (at' o_ j.toNat),k13 i,k13 j)))
  (.r<| .e (.next (o_,i,k13 j))))
  (.e (.done (.brk (o_,i)))))
  (fun(u0,i1)=> .a1 ((0:Int)<=i1/\i1<=(u0.length:Int))<| .rg {an:=[(2, .cells),(3, .take 0)],fr:=[(2,12)]} [.e (u0.length),0, .e ((u0.length - i1.toNat))]<| .im (.uh 0 (some (.arr 84 2 u0.length (yg (aj Part.cell u0) i1.toNat [.int .i64 0,.int .i64 0]))) (some (.arr 84 2 u0.length (Y8 u0 i1))) (BO (ZX Part.cell u0 i1.toNat (⟨0,0⟩:Part) [.int .i64 0,.int .i64 0] 2 (fun j hj=>match j,hj with|0,_=> .refl _|1,_=> .refl _))))<| .im (.ll 0 u0 (KG u0 i1) (Ir _ _ _))<| .a1 ((0:Int)<=i1/\i1<=((KG u0 i1).length:Int))<| .rg {an:=[(2, .arr (Rs u0 i1).length (Yh u0 i1))],fr:=[(2,13)]} [.e ((KG u0 i1).length),0, .dv 0 ⟨(0:Int)<=i1/\i1<=((KG u0 i1).length:Int),(Rs u0 i1).length=i1.toNat,fun ax=>take_len ax⟩, .pf ⟨av i1.toNat 2 (Y8 u0 i1) (Yh u0 i1),Eb _ _ _ _⟩]<| .en (Rs u0 i1) [] [(13,1)])))
theorem o5 (p:ah) (s_:State):cu Tryz.prog 75 (k24 s_ p) [] (fun r=>(vO 0 false r.length)) (fun r=>[(0,some (aX 84 2 Part.cell r))]) (iX p s_):=
  cZ tT mX Tryz.func75 (
  .rg {fr:=[(0,4),(1,5)],fz:=[4,5]} []<| .cl 1 (iT [(0,6)] (tH p)) fun r_=> .r<| .cl 2 (iT [(0,6),(1,7)] (wD r_.1 s_.ap s_.aw s_.ag s_.on_ s_.ae s_.am s_.al)) fun u0=> .r<| .en u0 [] [(7,0)])
theorem qY (x:Part) (x1:Int) (u0:List Source) (u1:List Link) (u2:List aO) (x2:List Bool) (u3:List Bool) (u4:List Bool) (u5:List Bool) (u6:List Bool) (u7:List Bool) (u8:List Bool) (x3:Int):cu Tryz.prog 76 [.agg (TY x),sD (k3 u0 u1 u2 x1),sD (Z6 x2 u3 u4 u5 u6 u7 u8),sD (J9 [.int .i64 x3] 0)] [] (fun r=>(vB r)) (fun _=>[]) (pW x x1 u0 u1 u2 x2 u3 u4 u5 u6 u7 u8 x3):=
  cZ tT mX Tryz.func76 (
  .rg {fr:=[(0,2)],fz:=[2]} []<| .cl 3 (tN (⟨x1,u0,u1,u2⟩:ah) (Ng x2 u3 u4 u5 u6 u7 u8) x) fun r_=> .rg {fr:=[(7,3)],fz:=[3]} []<| .cl 3 (kT (⟨x1,u0,u1,u2⟩:ah) r_.1 x3) fun u9=> .r<| .e u9)
section
variable (f_:Int) (u0:List Source) (u1:List Link) (u2:List aO) (u3:List Bool) (u4:List Bool) (u5:List Bool) (u6:List Bool) (u7:List Bool) (u8:List Bool) (u9:List Bool) (v0:Int) (s_:List Part)
abbrev ac2:=(z8 [k3 u0 u1 u2 f_,Z6 u3 u4 u5 u6 u7 u8 u9,J9 [.int .i64 v0] 0])
abbrev ad4:List SV:=[.one (.own 0 false s_.length),sD (.fn 76 3 (ac2 f_ u0 u1 u2 u3 u4 u5 u6 u7 u8 u9 v0))]
end
theorem uw (s_:List Part) (f_:Int) (u0:List Source) (u1:List Link) (u2:List aO) (u3:List Bool) (u4:List Bool) (u5:List Bool) (u6:List Bool) (u7:List Bool) (u8:List Bool) (u9:List Bool) (v0:Int):cu Tryz.prog 131 (ad4 f_ u0 u1 u2 u3 u4 u5 u6 u7 u8 u9 v0 s_) (BD s_) (fun r=>(vI r)) (fun r=>(BD s_)) (pJ s_ f_ u0 u1 u2 u3 u4 u5 u6 u7 u8 u9 v0):=
  cZ tT mX Tryz.func131 (
  .r<| .r<| .lp (σ:=Int) (β:=Unit) (0) [] [] ⟨[0,1,7],[0],fun t8=>[(8,vI t8)],fun t8=>[]⟩ ⟨[],[0],fun _=>[],fun _=>[]⟩
  (fun t8=> .r<| .it (.r<| .cl 5 (qY (at' s_ t8.toNat) f_ u0 u1 u2 u3 u4 u5 u6 u7 u8 u9 v0) fun r_=> .a1 (rC s_ t8)<| .rg {} [0, .t 0 t8 s_.length,1]<| .it (.r<| .e (.done (.ret t8)))
  (.r<| .e (.next (k13 t8))))
  (.e (.done (.brk ()))))
  (fun _=> .r<| .e (-1)))
section
variable (a:List Part) (b:List Part)
abbrev abm:List SV:=[sD (FM a),sD (FM b)]
end
theorem pU (a:List Part) (b:List Part):cu Tryz.prog 34 (abm a b) [] (fun r=>(vB r)) (fun _=>[]) (jK a b):=
  cZ tT mX Tryz.func34 (
  .r<| .r<| .it (.r<| .e false)
  (.r<| .lp (σ:=Int) (β:=Unit) (0) [] [] ⟨[0,1],[],fun i=>[(5,vI i)],fun i=>[]⟩ ⟨[],[],fun _=>[],fun _=>[]⟩
  (fun i=> .r<| .it (.a2 (rC a i) (rC b i)<| .rg {} [0,1]<| .it (.r<| .e (.done (.ret false)))
  (.r<| .e (.next (k13 i))))
  (.e (.done (.brk ()))))
  (fun _=> .r<| .e true)))
theorem nY (a:Int) (b:Int):cu Tryz.prog 90 [sI a,sI b] [] (fun r=>(.v (.agg [cI r.a,cI r.b,cI r.kind,cI r.most,cI r.ohm,.d (aN none 2 nT.cell r.trip)]))) (fun _=>[]) (ni a b):=
  cZ tT mX Tryz.func90 (
  .rg {fr:=[(0,1)]} []<| .r<| .en (⟨a,b,3,500,10,([]:List nT)⟩:Link) [1] [])
theorem bT (a:List Bool) (b:List Bool):cu Tryz.prog 47 [sD (aN none 1 af a),sD (aN none 1 af b)] [] (fun r=>(vB r)) (fun _=>[]) (bN a b):=
  cZ tT mX Tryz.func47 (
  .r<| .r<| .it (.r<| .e false)
  (.r<| .lp (σ:=Int) (β:=Unit) (0) [] [] ⟨[0,1],[],fun i=>[(5,vI i)],fun i=>[]⟩ ⟨[],[],fun _=>[],fun _=>[]⟩
  (fun i=> .r<| .it (.a2 (U2 a i) (U2 b i)<| .rg {} [0,1]<| .it (.r<| .e (.done (.ret false)))
  (.r<| .e (.next (k13 i))))
  (.e (.done (.brk ()))))
  (fun _=> .r<| .e true)))
abbrev XZ:List DV:=[.bool true,.bool true,.bool false]
theorem jr (u0:Int):cu Tryz.prog 45 [sI u0] [] (fun r=>(.dV [.agg [cI r.1.ar,.own 0 true r.1.aa.length,.own 1 true r.1.aq.length,.own 2 true r.1.a_.length],.agg [.own 3 true r.2.ap.length,.own 4 true r.2.aw.length,.own 5 true r.2.ag.length,.own 6 true r.2.on_.length,.own 7 true r.2.ae.length,.own 8 true r.2.am.length,.own 9 true r.2.al.length]])) (fun r=>[(0,some (aX 125 5 Source.cell r.1.aa)),(1,some (aX 113 6 Link.cell r.1.aq)),(2,some (aX 100 4 aO.cell r.1.a_)),(3,some (aX 4 1 af r.2.ap)),(4,some (aX 4 1 af r.2.aw)),(5,some (aX 4 1 af r.2.ag)),(6,some (aX 4 1 af r.2.on_)),(7,some (aX 4 1 af r.2.ae)),(8,some (aX 4 1 af r.2.am)),(9,some (aX 4 1 af r.2.al)),(10,none),(11,none)]) (iA u0):=
  cZ tT mX Tryz.func45 (
  .rg {fr:=[(0,13),(1,14)]} []<| .r<| .cl 6 (nY 0 2) fun r_=> .cl 8 (nY 1 3) fun u1=> .cl 10 (nY 2 3) fun u2=> .rg {an:=[(4, .arr [(⟨0,1,500,u0,20⟩:Source),(⟨1,1,500,u0,20⟩:Source)].length (aj Source.cell [(⟨0,1,500,u0,20⟩:Source),(⟨1,1,500,u0,20⟩:Source)])),(11, .arr [r_,u1,u2].length (aj Link.cell [r_,u1,u2])),(14, .arr [(⟨(⟨2,3⟩:ai),100,2⟩:aO)].length (aj aO.cell [(⟨(⟨2,3⟩:ai),100,2⟩:aO)]))],fr:=[(4,15),(11,16),(14,17),(16,18)]} [.pf ⟨[(⟨0,1,500,u0,20⟩:Source),(⟨1,1,500,u0,20⟩:Source)].length=2,rfl⟩, .pf ⟨av 2 5 (iY 5 [.int .i64 0,.int .i64 1,.int .i64 500,.int .i64 u0,.int .i64 20,.int .i64 1,.int .i64 1,.int .i64 500,.int .i64 u0,.int .i64 20]) (aj Source.cell [(⟨0,1,500,u0,20⟩:Source),(⟨1,1,500,u0,20⟩:Source)]),(by intro i hi j hj;match i,j,hi,hj with|0,0,_,_=>rfl|0,1,_,_=>rfl|0,2,_,_=>rfl|0,3,_,_=>rfl|0,4,_,_=>rfl|1,0,_,_=>rfl|1,1,_,_=>rfl|1,2,_,_=>rfl|1,3,_,_=>rfl|1,4,_,_=>rfl)⟩,2,1,0, .pf ⟨[r_,u1,u2].length=3,rfl⟩, .pf ⟨av 3 6 (iY 6 [.int .i64 r_.a,.int .i64 r_.b,.int .i64 r_.kind,.int .i64 r_.most,.int .i64 r_.ohm,aN none 2 nT.cell r_.trip,.int .i64 u1.a,.int .i64 u1.b,.int .i64 u1.kind,.int .i64 u1.most,.int .i64 u1.ohm,aN none 2 nT.cell u1.trip,.int .i64 u2.a,.int .i64 u2.b,.int .i64 u2.kind,.int .i64 u2.most,.int .i64 u2.ohm,aN none 2 nT.cell u2.trip]) (aj Link.cell [r_,u1,u2]),(by intro i hi j hj;match i,j,hi,hj with|0,0,_,_=>rfl|0,1,_,_=>rfl|0,2,_,_=>rfl|0,3,_,_=>rfl|0,4,_,_=>rfl|0,5,_,_=>rfl|1,0,_,_=>rfl|1,1,_,_=>rfl|1,2,_,_=>rfl|1,3,_,_=>rfl|1,4,_,_=>rfl|1,5,_,_=>rfl|2,0,_,_=>rfl|2,1,_,_=>rfl|2,2,_,_=>rfl|2,3,_,_=>rfl|2,4,_,_=>rfl|2,5,_,_=>rfl)⟩, .pf ⟨[(⟨(⟨2,3⟩:ai),100,2⟩:aO)].length=1,rfl⟩, .pf ⟨av 1 4 (iY 4 [.int .i64 2,.int .i64 3,.int .i64 100,.int .i64 2]) (aj aO.cell [(⟨(⟨2,3⟩:ai),100,2⟩:aO)]),(by intro i hi j hj;match i,j,hi,hj with|0,0,_,_=>rfl|0,1,_,_=>rfl|0,2,_,_=>rfl|0,3,_,_=>rfl)⟩]<| .as _ inferInstance [(0:Int)<=3,(1:Int)*3<=281474976710656,(3:Int)<=9223372036854775807,(0:Int)<=2,(1:Int)*2<=281474976710656,(2:Int)<=9223372036854775807,(0:Int)<=4,(1:Int)*4<=281474976710656,(4:Int)<=9223372036854775807] (fun h=> ⟨h.1,h.2.1,h.2.2.1,h.2.2.2.1,h.2.2.2.2.1,h.2.2.2.2.2.1,h.2.2.2.2.2.2.1,h.2.2.2.2.2.2.2.1,h.2.2.2.2.2.2.2.2,trivial⟩:(((0:Int)<=3)/\((1:Int)*3<=281474976710656)/\((3:Int)<=9223372036854775807)/\((0:Int)<=2)/\((1:Int)*2<=281474976710656)/\((2:Int)<=9223372036854775807)/\((0:Int)<=4)/\((1:Int)*4<=281474976710656)/\((4:Int)<=9223372036854775807))->_)<| .rg {an:=[(1, .arr [true,true,false].length (aj af [true,true,false])),(2, .arr (List.replicate 3 (false:Bool)).length (aj af (List.replicate 3 (false:Bool)))),(3, .arr (List.replicate 3 (false:Bool)).length (aj af (List.replicate 3 (false:Bool)))),(4, .arr [true,true].length (aj af [true,true])),(5, .arr (List.replicate 2 (false:Bool)).length (aj af (List.replicate 2 (false:Bool)))),(6, .arr (List.replicate 4 (false:Bool)).length (aj af (List.replicate 4 (false:Bool)))),(7, .arr (List.replicate 4 (false:Bool)).length (aj af (List.replicate 4 (false:Bool))))],fr:=[(1,19),(2,20),(3,21),(4,22),(5,23),(6,24),(7,25)]} [.pf ⟨[true,true,false].length=3,rfl⟩, .pf ⟨av 3 1 (iY 1 XZ) (aj af [true,true,false]),(by intro i hi j hj;match i,j,hi,hj with|0,0,_,_=>rfl|1,0,_,_=>rfl|2,0,_,_=>rfl)⟩,0, .e ((3:Int)),1,2, .pf ⟨(List.replicate 3 (false:Bool)).length=3,dj⟩, .pf ⟨av 3 1 (fun _ j=>[.bool false].getD j .nilp) (aj af (List.replicate 3 (false:Bool))),gV _ _ _ _ _ (fun j hj=>(match j,hj with|0,_=>rfl))⟩,0, .e ((3:Int)),1,2, .pf ⟨(List.replicate 3 (false:Bool)).length=3,dj⟩, .pf ⟨av 3 1 (fun _ j=>[.bool false].getD j .nilp) (aj af (List.replicate 3 (false:Bool))),gV _ _ _ _ _ (fun j hj=>(match j,hj with|0,_=>rfl))⟩, .pf ⟨[true,true].length=2,rfl⟩, .pf ⟨av 2 1 (iY 1 [.bool true,.bool true]) (aj af [true,true]),(by intro i hi j hj;match i,j,hi,hj with|0,0,_,_=>rfl|1,0,_,_=>rfl)⟩,3, .e ((2:Int)),4,5, .pf ⟨(List.replicate 2 (false:Bool)).length=2,dj⟩, .pf ⟨av 2 1 (fun _ j=>[.bool false].getD j .nilp) (aj af (List.replicate 2 (false:Bool))),gV _ _ _ _ _ (fun j hj=>(match j,hj with|0,_=>rfl))⟩,6, .e ((4:Int)),7,8, .pf ⟨(List.replicate 4 (false:Bool)).length=4,dj⟩, .pf ⟨av 4 1 (fun _ j=>[.bool false].getD j .nilp) (aj af (List.replicate 4 (false:Bool))),gV _ _ _ _ _ (fun j hj=>(match j,hj with|0,_=>rfl))⟩,6, .e ((4:Int)),7,8, .pf ⟨(List.replicate 4 (false:Bool)).length=4,dj⟩, .pf ⟨av 4 1 (fun _ j=>[.bool false].getD j .nilp) (aj af (List.replicate 4 (false:Bool))),gV _ _ _ _ _ (fun j hj=>(match j,hj with|0,_=>rfl))⟩]<| .en ((⟨4,[(⟨0,1,500,u0,20⟩:Source),(⟨1,1,500,u0,20⟩:Source)],[r_,u1,u2],[(⟨(⟨2,3⟩:ai),100,2⟩:aO)]⟩:ah),(⟨[true,true,false],List.replicate 3 (false:Bool),List.replicate 3 (false:Bool),[true,true],List.replicate 2 (false:Bool),List.replicate 4 (false:Bool),List.replicate 4 (false:Bool)⟩:State)) [] [(15,0),(16,1),(17,2),(19,3),(20,4),(21,5),(22,6),(23,7),(24,8),(25,9),(13,10),(14,11)])
theorem wE (s_:List Part) (u1:Int) (u2:List Source) (u3:List Link) (u4:List aO) (u5:List Bool) (u6:List Bool) (u7:List Bool) (u8:List Bool) (u9:List Bool) (v0:List Bool) (v1:List Bool) (v2:Int):cu Tryz.prog 74 (ad4 u1 u2 u3 u4 u5 u6 u7 u8 u9 v0 v1 v2 s_) (BD s_) (fun r=>(vO 1 false r.length)) (fun r=>[(0,none),(1,some (aX 84 2 Part.cell r))]) (qo s_ u1 u2 u3 u4 u5 u6 u7 u8 u9 v0 v1 v2):=
  cZ tT mX Tryz.func74 (
  .r<| .cr 2 (uw s_ u1 u2 u3 u4 u5 u6 u7 u8 u9 v0 v1 v2) fun r_=> .r<| .r<| .it (.r<| .im (.rs 4 0 7)<| .en s_ [] [(7,1)])
  (.r<| .lp (σ:=((List Part) × Int × Int)) (β:=((List Part) × Int)) (s_,r_,k13 r_) [] [] ⟨[1],[],fun(o_,i,j)=>[(0,vO 0 false o_.length),(5,vI i),(6,vI j)],fun(o_,i,j)=>(BD o_)⟩ ⟨[],[],fun(u0,i1)=>[(0,vO 0 false u0.length),(5,vI i1)],fun(u0,i1)=>(BD u0)⟩
  (fun(o_,i,j)=> .r<| .it (.a1 (rC o_ j)<| .rg {fr:=[(4,11)],fz:=[11]} [0, .t 0 j o_.length]<| .cl 2 (qY (at' o_ j.toNat) u1 u2 u3 u4 u5 u6 u7 u8 u9 v0 v1 v2) fun v3=> .r<| .it (.a1 (rC o_ i)<| .rg {an:=[(4, .arr 0 (Yx o_ i j))]} [0, .t 0 i o_.length, .pf ⟨av o_.length 2 (aeC o_ i j) (Yx o_ i j),aQ _ _ _ _ _ _ _ _ rfl (fun j hj=>(match j,hj with|0,_=>rfl|1,_=>rfl))⟩]<| .im (.ll 0 o_ (o_.set i.toNat (at' o_ j.toNat)))<| .r<| .r<| .e (.next (o_.set i.toNat (at' o_ j.toNat),k13 i,k13 j)))
  (.r<| .e (.next (o_,i,k13 j))))
  (.e (.done (.brk (o_,i)))))
  (fun(u0,i1)=> .a1 ((0:Int)<=i1/\i1<=(u0.length:Int))<| .rg {an:=[(2, .cells),(3, .take 0)],fr:=[(2,12)]} [.e (u0.length),0, .e ((u0.length - i1.toNat))]<| .im (.uh 0 (some (.arr 84 2 u0.length (yg (aj Part.cell u0) i1.toNat [.int .i64 0,.int .i64 0]))) (some (.arr 84 2 u0.length (Y8 u0 i1))) (BO (ZX Part.cell u0 i1.toNat (⟨0,0⟩:Part) [.int .i64 0,.int .i64 0] 2 (fun j hj=>match j,hj with|0,_=> .refl _|1,_=> .refl _))))<| .im (.ll 0 u0 (KG u0 i1) (Ir _ _ _))<| .a1 ((0:Int)<=i1/\i1<=((KG u0 i1).length:Int))<| .rg {an:=[(2, .arr (Rs u0 i1).length (Yh u0 i1))],fr:=[(2,13)]} [.e ((KG u0 i1).length),0, .dv 0 ⟨(0:Int)<=i1/\i1<=((KG u0 i1).length:Int),(Rs u0 i1).length=i1.toNat,fun ax=>take_len ax⟩, .pf ⟨av i1.toNat 2 (Y8 u0 i1) (Yh u0 i1),Eb _ _ _ _⟩]<| .en (Rs u0 i1) [] [(13,1)])))
theorem lG (p:ah) (s_:State) (u0:Int):cu Tryz.prog 32 (EY p s_ u0) [] (fun r=>(.dV [.one (.own 0 false r.1.length),sI r.2])) (fun r=>[(0,some (aX 84 2 Part.cell r.1))]) (kH p s_ u0):=
  cZ tT mX Tryz.func32 (
  .rg {fr:=[(0,5),(1,6),(2,7)],fz:=[5,6,7]} []<| .cl 3 (nJ p s_ u0) fun r_=> .r<| .r<| .it (.r<| .im (.ad 6 8 84 2 (aj Part.cell ([]:List Part)))<| .en (([]:List Part),r_) [] [(8,0)])
  (.cl 3 (kT p s_ u0) fun u3=> .r<| .it (.r<| .im (.ad 6 9 84 2 (aj Part.cell ([]:List Part)))<| .en (([]:List Part),0) [] [(9,0)])
  (.cl 2 (iT [(0,10)] (o5 p s_)) fun u1=> .cl 4 (iT [(0,10),(1,11)] (wE u1 p.ar p.aa p.aq p.a_ s_.ap s_.aw s_.ag s_.on_ s_.ae s_.am s_.al u0)) fun u2=> .r<| .en (u2,0) [] [(11,0)])))
end
end Sg
