import Derived.Test.YtklofnlffikpgaaGreatCoW0
set_option linter.all false
namespace Sg
open Go Go.Proofs
set_option maxRecDepth 20000
noncomputable section
section
variable (x:Part) (p:ah) (s_:State) (is:Bool) (r_:Int) (u0:State)
abbrev RU:List CV:=[cI x.kind,cI x.index]
abbrev ZO:List SV:=[.agg (k1 p),.agg (k23 s_),.agg (RU x),sB is]
abbrev Ya:=((⟨([]:List Bool),([]:List Bool),([]:List Bool),([]:List Bool),([]:List Bool),([]:List Bool),([]:List Bool)⟩:State),r_)
abbrev NA:List CV:=[.own 23 false u0.al.length]
abbrev EW:=(Uz 1 (NA u0))
abbrev EK:List DV:=[.int .i64 1,.int .i64 2]
abbrev EJ:=(Uz 1 [.own 23 false u0.al.length,.own 21 false u0.ag.length])
abbrev EQ:List DV:=[.int .i64 1,.int .i64 2,.int .i64 3]
abbrev EP:=(Uz 1 [.own 23 false u0.al.length,.own 21 false u0.ag.length,.own 19 false u0.am.length])
abbrev Qt:List CV:=[.own 21 false u0.ag.length]
abbrev Qv:List CV:=[.own 19 false u0.am.length]
end
theorem C9 (p:ah) (s_:State) (x:Part) (is:Bool):dN Tryz.prog 114 (ZO x p s_ is) [] (fun r=>(.fF [.agg [.d (aZ none 1 af r.1.aq),.d (aZ none 1 af r.1.aw),.d (aZ none 1 af r.1.am),.d (aZ none 1 af r.1.on_),.d (aZ none 1 af r.1.ag),.d (aZ none 1 af r.1.ar),.d (aZ none 1 af r.1.al)],sI r.2])) (fun _=>[]) (mH p s_ x is):=
  eF tT mX Tryz.func114 (
  .rg {fr:=[(0,13),(1,14),(2,15),(3,16)],fz:=[13]} []<| .cl 2 (eT p s_) fun r_=> .r<| .r<| .it (.rg {fz:=[16]} []<| .e (Ya r_))
  (.cl 1 (mr [(0,17),(1,18),(2,19),(3,20),(4,21),(5,22),(6,23),(7,24)] (zy s_)) fun u0=> .r<| .fk (cZ x.kind 1) (.rg {an:=[(0, .map 0 (vG []) (Uz 1 []) []),(3, .map 1 (vG [.int .i64 1]) (EW u0) [23]),(6, .map 2 (vG EK) (EJ u0) [23,21]),(9, .map 3 (vG EQ) (EP u0) [23,21,19]),(13, .look true (NA u0))],fr:=[(0,25)]} [.pf ⟨qY [some .i64] 1 1 0 (vG []) (Uz 1 []) [.int .i64 1] (NA u0) [23] 1 (vG [.int .i64 1]) (EW u0),⟨(fun i hi=>absurd hi (cM i)),(by intro i hi j hj;match i,j,hi,hj with|0,0,_,_=>exact bX.1 (show fD (CV.bU (.own 23 false u0.al.length)) [23]=true from by kernel_rfl)),0,(fun i hi=>absurd hi (cM i)), .inr ⟨rfl,rfl⟩,rfl,rfl,(fun i hi=>absurd hi (cM i))⟩⟩, .pf ⟨qY [some .i64] 1 1 1 (vG [.int .i64 1]) (EW u0) [.int .i64 2] (Qt u0) [23,21] 2 (vG EK) (EJ u0),⟨(by intro i hi;match i,hi with|0,_=>rfl),(by intro i hi j hj;match i,j,hi,hj with|0,0,_,_=>exact bX.1 (show fD (CV.bU (.own 23 false u0.al.length)) [23,21]=true from by kernel_rfl)|1,0,_,_=>exact bX.1 (show fD (CV.bU (.own 21 false u0.ag.length)) [23,21]=true from by kernel_rfl)),1,(by intro i hi;match i,hi with|0,_=>rfl), .inr ⟨rfl,rfl⟩,rfl,rfl,(by intro i hi;match i,hi with|0,_=>exact fun _=> ⟨rfl,rfl⟩)⟩⟩, .pf ⟨qY [some .i64] 1 1 2 (vG EK) (EJ u0) [.int .i64 3] (Qv u0) [23,21,19] 3 (vG EQ) (EP u0),⟨(by intro i hi;match i,hi with|0,_=>rfl|1,_=>rfl),(by intro i hi j hj;match i,j,hi,hj with|0,0,_,_=>exact bX.1 (show fD (CV.bU (.own 23 false u0.al.length)) [23,21,19]=true from by kernel_rfl)|1,0,_,_=>exact bX.1 (show fD (CV.bU (.own 21 false u0.ag.length)) [23,21,19]=true from by kernel_rfl)|2,0,_,_=>exact bX.1 (show fD (CV.bU (.own 19 false u0.am.length)) [23,21,19]=true from by kernel_rfl)),2,(by intro i hi;match i,hi with|0,_=>rfl|1,_=>rfl), .inr ⟨rfl,rfl⟩,rfl,rfl,(by intro i hi;match i,hi with|0,_=>exact fun _=> ⟨rfl,rfl⟩|1,_=>exact fun _=> ⟨rfl,rfl⟩)⟩⟩, .m [0] [(cZ x.kind 1)=true] (kR [some .i64] 1 1 3 (vG EQ) (EP u0) [.int .i64 x.kind] [.d nS] true (NA u0)) (fun⟨hb1,_⟩=> ⟨(by intro i hi;match i,hi with|0,_=>rfl|1,_=>rfl|2,_=>rfl), .inl ⟨rfl,0,by decide,congrArg some hb1,(fun i hi=>absurd hi (cM i)),rfl⟩⟩)]<| .cl 5 (aK x.index 0 (IntKind.wrap .i64 ((u0.al.length:Int) - 1))) fun u1=> .r<| .it (.rg {fz:=[16]} []<| .e ((⟨([]:List Bool),([]:List Bool),([]:List Bool),([]:List Bool),([]:List Bool),([]:List Bool),([]:List Bool)⟩:State),14))
  (.a1 ((0:Int)<=x.index/\x.index<(u0.al.length:Int))<| .rg {an:=[(5, .arr 0 (aj af (u0.al.set x.index.toNat is)))]} [0, .t 0 x.index u0.al.length, .pf ⟨aF u0.al.length 1 (nR (aj af u0.al) x.index.toNat 0 [.bool is]) (aj af (u0.al.set x.index.toNat is)),dB _ _ _ _ _ _ _ _ rfl (fun j hj=>(match j,hj with|0,_=>rfl))⟩]<| .im (.ll 23 u0.al (u0.al.set x.index.toNat is))<| .rg {fz:=[17,18,19,20,21,22,23]} []<| .fz [16]<| .e ((⟨u0.aq,u0.aw,u0.am,u0.on_,u0.ag,u0.ar,u0.al.set x.index.toNat is⟩:State),0)))
  (.fk (cZ x.kind 2) (.rg {an:=[(0, .map 0 (vG []) (Uz 1 []) []),(3, .map 1 (vG [.int .i64 1]) (EW u0) [23]),(6, .map 2 (vG EK) (EJ u0) [23,21]),(9, .map 3 (vG EQ) (EP u0) [23,21,19]),(13, .look true (Qt u0))],fr:=[(0,25)]} [.pf ⟨qY [some .i64] 1 1 0 (vG []) (Uz 1 []) [.int .i64 1] (NA u0) [23] 1 (vG [.int .i64 1]) (EW u0),⟨(fun i hi=>absurd hi (cM i)),(by intro i hi j hj;match i,j,hi,hj with|0,0,_,_=>exact bX.1 (show fD (CV.bU (.own 23 false u0.al.length)) [23]=true from by kernel_rfl)),0,(fun i hi=>absurd hi (cM i)), .inr ⟨rfl,rfl⟩,rfl,rfl,(fun i hi=>absurd hi (cM i))⟩⟩, .pf ⟨qY [some .i64] 1 1 1 (vG [.int .i64 1]) (EW u0) [.int .i64 2] (Qt u0) [23,21] 2 (vG EK) (EJ u0),⟨(by intro i hi;match i,hi with|0,_=>rfl),(by intro i hi j hj;match i,j,hi,hj with|0,0,_,_=>exact bX.1 (show fD (CV.bU (.own 23 false u0.al.length)) [23,21]=true from by kernel_rfl)|1,0,_,_=>exact bX.1 (show fD (CV.bU (.own 21 false u0.ag.length)) [23,21]=true from by kernel_rfl)),1,(by intro i hi;match i,hi with|0,_=>rfl), .inr ⟨rfl,rfl⟩,rfl,rfl,(by intro i hi;match i,hi with|0,_=>exact fun _=> ⟨rfl,rfl⟩)⟩⟩, .pf ⟨qY [some .i64] 1 1 2 (vG EK) (EJ u0) [.int .i64 3] (Qv u0) [23,21,19] 3 (vG EQ) (EP u0),⟨(by intro i hi;match i,hi with|0,_=>rfl|1,_=>rfl),(by intro i hi j hj;match i,j,hi,hj with|0,0,_,_=>exact bX.1 (show fD (CV.bU (.own 23 false u0.al.length)) [23,21,19]=true from by kernel_rfl)|1,0,_,_=>exact bX.1 (show fD (CV.bU (.own 21 false u0.ag.length)) [23,21,19]=true from by kernel_rfl)|2,0,_,_=>exact bX.1 (show fD (CV.bU (.own 19 false u0.am.length)) [23,21,19]=true from by kernel_rfl)),2,(by intro i hi;match i,hi with|0,_=>rfl|1,_=>rfl), .inr ⟨rfl,rfl⟩,rfl,rfl,(by intro i hi;match i,hi with|0,_=>exact fun _=> ⟨rfl,rfl⟩|1,_=>exact fun _=> ⟨rfl,rfl⟩)⟩⟩, .m [0,1] [(cZ x.kind 2)=true,(cZ x.kind 1)=false] (kR [some .i64] 1 1 3 (vG EQ) (EP u0) [.int .i64 x.kind] [.d nS] true (Qt u0)) (fun⟨hb3,hb1,_⟩=> ⟨(by intro i hi;match i,hi with|0,_=>rfl|1,_=>rfl|2,_=>rfl), .inl ⟨rfl,1,by decide,congrArg some hb3,(by intro i hi;match i,hi with|0,_=>exact congrArg some hb1),rfl⟩⟩)]<| .cl 5 (aK x.index 0 (IntKind.wrap .i64 ((u0.ag.length:Int) - 1))) fun u2=> .r<| .it (.rg {fz:=[16]} []<| .e ((⟨([]:List Bool),([]:List Bool),([]:List Bool),([]:List Bool),([]:List Bool),([]:List Bool),([]:List Bool)⟩:State),14))
  (.a1 ((0:Int)<=x.index/\x.index<(u0.ag.length:Int))<| .rg {an:=[(5, .arr 0 (aj af (u0.ag.set x.index.toNat is)))]} [0, .t 0 x.index u0.ag.length, .pf ⟨aF u0.ag.length 1 (nR (aj af u0.ag) x.index.toNat 0 [.bool is]) (aj af (u0.ag.set x.index.toNat is)),dB _ _ _ _ _ _ _ _ rfl (fun j hj=>(match j,hj with|0,_=>rfl))⟩]<| .im (.ll 21 u0.ag (u0.ag.set x.index.toNat is))<| .rg {fz:=[17,18,19,20,21,22,23]} []<| .fz [16]<| .e ((⟨u0.aq,u0.aw,u0.am,u0.on_,u0.ag.set x.index.toNat is,u0.ar,u0.al⟩:State),0)))
  (.fk (cZ x.kind 3) (.rg {an:=[(0, .map 0 (vG []) (Uz 1 []) []),(3, .map 1 (vG [.int .i64 1]) (EW u0) [23]),(6, .map 2 (vG EK) (EJ u0) [23,21]),(9, .map 3 (vG EQ) (EP u0) [23,21,19]),(13, .look true (Qv u0))],fr:=[(0,25)]} [.pf ⟨qY [some .i64] 1 1 0 (vG []) (Uz 1 []) [.int .i64 1] (NA u0) [23] 1 (vG [.int .i64 1]) (EW u0),⟨(fun i hi=>absurd hi (cM i)),(by intro i hi j hj;match i,j,hi,hj with|0,0,_,_=>exact bX.1 (show fD (CV.bU (.own 23 false u0.al.length)) [23]=true from by kernel_rfl)),0,(fun i hi=>absurd hi (cM i)), .inr ⟨rfl,rfl⟩,rfl,rfl,(fun i hi=>absurd hi (cM i))⟩⟩, .pf ⟨qY [some .i64] 1 1 1 (vG [.int .i64 1]) (EW u0) [.int .i64 2] (Qt u0) [23,21] 2 (vG EK) (EJ u0),⟨(by intro i hi;match i,hi with|0,_=>rfl),(by intro i hi j hj;match i,j,hi,hj with|0,0,_,_=>exact bX.1 (show fD (CV.bU (.own 23 false u0.al.length)) [23,21]=true from by kernel_rfl)|1,0,_,_=>exact bX.1 (show fD (CV.bU (.own 21 false u0.ag.length)) [23,21]=true from by kernel_rfl)),1,(by intro i hi;match i,hi with|0,_=>rfl), .inr ⟨rfl,rfl⟩,rfl,rfl,(by intro i hi;match i,hi with|0,_=>exact fun _=> ⟨rfl,rfl⟩)⟩⟩, .pf ⟨qY [some .i64] 1 1 2 (vG EK) (EJ u0) [.int .i64 3] (Qv u0) [23,21,19] 3 (vG EQ) (EP u0),⟨(by intro i hi;match i,hi with|0,_=>rfl|1,_=>rfl),(by intro i hi j hj;match i,j,hi,hj with|0,0,_,_=>exact bX.1 (show fD (CV.bU (.own 23 false u0.al.length)) [23,21,19]=true from by kernel_rfl)|1,0,_,_=>exact bX.1 (show fD (CV.bU (.own 21 false u0.ag.length)) [23,21,19]=true from by kernel_rfl)|2,0,_,_=>exact bX.1 (show fD (CV.bU (.own 19 false u0.am.length)) [23,21,19]=true from by kernel_rfl)),2,(by intro i hi;match i,hi with|0,_=>rfl|1,_=>rfl), .inr ⟨rfl,rfl⟩,rfl,rfl,(by intro i hi;match i,hi with|0,_=>exact fun _=> ⟨rfl,rfl⟩|1,_=>exact fun _=> ⟨rfl,rfl⟩)⟩⟩, .m [0,2,1] [(cZ x.kind 3)=true,(cZ x.kind 1)=false,(cZ x.kind 2)=false] (kR [some .i64] 1 1 3 (vG EQ) (EP u0) [.int .i64 x.kind] [.d nS] true (Qv u0)) (fun⟨hb5,hb1,hb3,_⟩=> ⟨(by intro i hi;match i,hi with|0,_=>rfl|1,_=>rfl|2,_=>rfl), .inl ⟨rfl,2,by decide,congrArg some hb5,(by intro i hi;match i,hi with|0,_=>exact congrArg some hb1|1,_=>exact congrArg some hb3),rfl⟩⟩)]<| .cl 5 (aK x.index 0 (IntKind.wrap .i64 ((u0.am.length:Int) - 1))) fun u3=> .r<| .it (.rg {fz:=[16]} []<| .e ((⟨([]:List Bool),([]:List Bool),([]:List Bool),([]:List Bool),([]:List Bool),([]:List Bool),([]:List Bool)⟩:State),14))
  (.a1 ((0:Int)<=x.index/\x.index<(u0.am.length:Int))<| .rg {an:=[(5, .arr 0 (aj af (u0.am.set x.index.toNat is)))]} [0, .t 0 x.index u0.am.length, .pf ⟨aF u0.am.length 1 (nR (aj af u0.am) x.index.toNat 0 [.bool is]) (aj af (u0.am.set x.index.toNat is)),dB _ _ _ _ _ _ _ _ rfl (fun j hj=>(match j,hj with|0,_=>rfl))⟩]<| .im (.ll 19 u0.am (u0.am.set x.index.toNat is))<| .rg {fz:=[17,18,19,20,21,22,23]} []<| .fz [16]<| .e ((⟨u0.aq,u0.aw,u0.am.set x.index.toNat is,u0.on_,u0.ag,u0.ar,u0.al⟩:State),0)))
  (.rg {an:=[(0, .map 0 (vG []) (Uz 1 []) []),(3, .map 1 (vG [.int .i64 1]) (EW u0) [23]),(6, .map 2 (vG EK) (EJ u0) [23,21]),(9, .map 3 (vG EQ) (EP u0) [23,21,19]),(13, .look false [.d nS])],fr:=[(0,25)]} [.pf ⟨qY [some .i64] 1 1 0 (vG []) (Uz 1 []) [.int .i64 1] (NA u0) [23] 1 (vG [.int .i64 1]) (EW u0),⟨(fun i hi=>absurd hi (cM i)),(by intro i hi j hj;match i,j,hi,hj with|0,0,_,_=>exact bX.1 (show fD (CV.bU (.own 23 false u0.al.length)) [23]=true from by kernel_rfl)),0,(fun i hi=>absurd hi (cM i)), .inr ⟨rfl,rfl⟩,rfl,rfl,(fun i hi=>absurd hi (cM i))⟩⟩, .pf ⟨qY [some .i64] 1 1 1 (vG [.int .i64 1]) (EW u0) [.int .i64 2] (Qt u0) [23,21] 2 (vG EK) (EJ u0),⟨(by intro i hi;match i,hi with|0,_=>rfl),(by intro i hi j hj;match i,j,hi,hj with|0,0,_,_=>exact bX.1 (show fD (CV.bU (.own 23 false u0.al.length)) [23,21]=true from by kernel_rfl)|1,0,_,_=>exact bX.1 (show fD (CV.bU (.own 21 false u0.ag.length)) [23,21]=true from by kernel_rfl)),1,(by intro i hi;match i,hi with|0,_=>rfl), .inr ⟨rfl,rfl⟩,rfl,rfl,(by intro i hi;match i,hi with|0,_=>exact fun _=> ⟨rfl,rfl⟩)⟩⟩, .pf ⟨qY [some .i64] 1 1 2 (vG EK) (EJ u0) [.int .i64 3] (Qv u0) [23,21,19] 3 (vG EQ) (EP u0),⟨(by intro i hi;match i,hi with|0,_=>rfl|1,_=>rfl),(by intro i hi j hj;match i,j,hi,hj with|0,0,_,_=>exact bX.1 (show fD (CV.bU (.own 23 false u0.al.length)) [23,21,19]=true from by kernel_rfl)|1,0,_,_=>exact bX.1 (show fD (CV.bU (.own 21 false u0.ag.length)) [23,21,19]=true from by kernel_rfl)|2,0,_,_=>exact bX.1 (show fD (CV.bU (.own 19 false u0.am.length)) [23,21,19]=true from by kernel_rfl)),2,(by intro i hi;match i,hi with|0,_=>rfl|1,_=>rfl), .inr ⟨rfl,rfl⟩,rfl,rfl,(by intro i hi;match i,hi with|0,_=>exact fun _=> ⟨rfl,rfl⟩|1,_=>exact fun _=> ⟨rfl,rfl⟩)⟩⟩, .m [2,1,0] [(cZ x.kind 1)=false,(cZ x.kind 2)=false,(cZ x.kind 3)=false] (kR [some .i64] 1 1 3 (vG EQ) (EP u0) [.int .i64 x.kind] [.d nS] false [.d nS]) (fun⟨hb1,hb3,hb5,_⟩=> ⟨(by intro i hi;match i,hi with|0,_=>rfl|1,_=>rfl|2,_=>rfl), .inr ⟨rfl,(by intro i hi;match i,hi with|0,_=>exact congrArg some hb1|1,_=>exact congrArg some hb3|2,_=>exact congrArg some hb5), .refl _⟩⟩)]<| .cl 5 (aK x.index 0 (-1)) fun u4=> .r<| .it (.rg {fz:=[16]} []<| .e ((⟨([]:List Bool),([]:List Bool),([]:List Bool),([]:List Bool),([]:List Bool),([]:List Bool),([]:List Bool)⟩:State),14))
  (.no))))))
theorem sG (p:ah) (s_:State) (x:Part):dN Tryz.prog 58 [.agg (k1 p),.agg (k23 s_),.agg (RU x)] [] (fun r=>(.fF [.agg [.d (aZ none 1 af r.1.aq),.d (aZ none 1 af r.1.aw),.d (aZ none 1 af r.1.am),.d (aZ none 1 af r.1.on_),.d (aZ none 1 af r.1.ag),.d (aZ none 1 af r.1.ar),.d (aZ none 1 af r.1.al)],sI r.2])) (fun _=>[]) (qR p s_ x):=
  eF tT mX Tryz.func58 (
  .rg {fr:=[(0,4),(1,5),(2,6),(3,7)],fz:=[4,5,6]} []<| .cl 3 (C9 p s_ x true) fun r_=> .r<| .en (r_.1,r_.2) [7] [])
theorem jD (p:ah) (s_:State) (l:List Transfer):dN Tryz.prog 13 (k36 p s_ l) [] (fun r=>(.fF [.agg [.own 0 false r.1.aq.length,.own 1 false r.1.aw.length,.own 2 false r.1.am.length,.own 3 false r.1.on_.length,.own 4 false r.1.ag.length,.own 5 false r.1.ar.length,.own 6 false r.1.al.length],.one (.own 7 false r.2.1.length),sI r.2.2])) (fun r=>[(0,some (aW 4 1 af r.1.aq)),(1,some (aW 4 1 af r.1.aw)),(2,some (aW 4 1 af r.1.am)),(3,some (aW 4 1 af r.1.on_)),(4,some (aW 4 1 af r.1.ag)),(5,some (aW 4 1 af r.1.ar)),(6,some (aW 4 1 af r.1.al)),(7,some (aW 3 1 (aH .i64) r.2.1)),(8,none)]) (mE p s_ l):=
  eF tT mX Tryz.func13 (
  .rg {fr:=[(0,18),(1,19),(2,20)],fz:=[18,19]} []<| .cl 3 (nZ p s_ l) fun r_=> .r<| .r<| .it (.r<| .im (.ad 7 21 3 1 (aj (aH .i64) ([]:List Int)))<| .im (.HY 20 0 22 4 1 (aj af ([]:List Bool)))<| .im (.HY 20 1 23 4 1 (aj af ([]:List Bool)))<| .im (.HY 20 2 24 4 1 (aj af ([]:List Bool)))<| .im (.HY 20 3 25 4 1 (aj af ([]:List Bool)))<| .im (.HY 20 4 26 4 1 (aj af ([]:List Bool)))<| .im (.HY 20 5 27 4 1 (aj af ([]:List Bool)))<| .im (.HY 20 6 28 4 1 (aj af ([]:List Bool)))<| .en ((⟨([]:List Bool),([]:List Bool),([]:List Bool),([]:List Bool),([]:List Bool),([]:List Bool),([]:List Bool)⟩:State),([]:List Int),r_) [] [(22,0),(23,1),(24,2),(25,3),(26,4),(27,5),(28,6),(21,7),(20,8)])
  (.cl 1 (mr [(0,29),(1,30),(2,31),(3,32),(4,33),(5,34),(6,35),(7,36)] (zb s_)) fun u0=> .rg {fr:=[(2,37)]} []<| .rg {fr:=[(0,38)]} []<| .im (.HY 38 0 39 3 1 (aj (aH .i64) ([]:List Int)))<| .cl 3 (mr [(0,29),(1,30),(2,31),(3,32),(4,33),(5,34),(6,35),(7,40)] (zw p u0 l)) fun u1=> .r<| .cl 0 (mr [(0,41),(1,40),(2,37),(3,38),(4,29),(5,30),(6,31),(7,32),(8,33),(9,34),(10,35),(11,39),(12,42),(13,43)] (Ar u1.1 u1.2.1 u1.2.2.1 u1.2.2.2.1 u1.2.2.2.2.1 u0 u0 ([]:List Int))) fun u2=> .rf 41 [10,11] [] none 0 []<| .r<| .en ((⟨u2.1.aq,u0.aw,u0.am,u0.on_,u0.ag,u0.ar,u0.al⟩:State),u2.2.2,0) [] [(42,0),(30,1),(31,2),(32,3),(33,4),(34,5),(35,6),(43,7),(20,8)]))
section
variable (p:ah) (s_:State) (u0:Int)
abbrev CJ:List SV:=[.agg (k1 p),.agg (k23 s_),sI u0]
end
theorem mO (p:ah) (s_:State) (u0:Int):dN Tryz.prog 69 (CJ p s_ u0) [] (fun r=>(vI r)) (fun _=>[]) (eH p s_ u0):=
  eF tT mX Tryz.func69 (
  .rg {fr:=[(0,2),(1,3)],fz:=[2,3]} []<| .cl 2 (eT p s_) fun r_=> .r<| .r<| .it (.r<| .e r_)
  (.r<| .it (.r<| .e 13)
  (.r<| .e 0)))
section
variable (s_:List Part) (v_:Part) (t8:Int)
abbrev DF:DV:=(aZ none 2 Part.cell s_)
abbrev Yo:List SV:=[sD (DF s_),.agg (RU v_)]
abbrev zF:=((0:Int)<=t8/\t8<(s_.length:Int))
end
theorem qX (s_:List Part) (v_:Part):dN Tryz.prog 123 (Yo s_ v_) [] (fun r=>(vI r)) (fun _=>[]) (cO s_ v_):=
  eF tT mX Tryz.func123 (
  .rg {fr:=[(0,1)],fz:=[1]} []<| .r<| .lp (σ:=Int) (β:=Unit) (0) [] [] ⟨[0,3,7],[],fun t8=>[(8,vI t8)],fun t8=>[]⟩ ⟨[],[],fun _=>[],fun _=>[]⟩
  (fun t8=> .r<| .it (.r<| .a1 (zF s_ t8)<| .r<| .it (.r<| .e (.done (.ret t8)))
  (.r<| .e (.next (k11 t8))))
  (.e (.done (.brk ()))))
  (fun _=> .r<| .e (-1)))
section
variable (u0:Int) (u1:Int) (u2:List Part)
abbrev K7:=(⟨k11 u0,u1⟩:Part)
abbrev Yx:=(aj Part.cell [K7 u0 u1])
abbrev Tc:=(u2++[K7 u0 u1])
end
theorem sF (p:ah):dN Tryz.prog 44 (k0 p) [] (fun r=>(.fF [.one (.own 0 false r.1.length),sI r.2])) (fun r=>[(0,some (aW 84 2 Part.cell r.1))]) (jG p):=
  eF tT mX Tryz.func44 (
  .rg {fr:=[(0,34)],fz:=[34]} []<| .cl 1 (wU p) fun r_=> .r<| .r<| .it (.r<| .im (.ad 2 35 84 2 (aj Part.cell ([]:List Part)))<| .en (([]:List Part),r_) [] [(35,0)])
  (.r<| .rg {an:=[(8, .arr [p.ap,(p.aa.length:Int),(p.ae.length:Int)].length (aj (aH .i64) [p.ap,(p.aa.length:Int),(p.ae.length:Int)]))],fr:=[(8,36)],fz:=[36]} [.pf ⟨[p.ap,(p.aa.length:Int),(p.ae.length:Int)].length=3,rfl⟩, .pf ⟨aF 3 1 (lS 1 [.int .i64 p.ap,.int .i64 (p.aa.length:Int),.int .i64 (p.ae.length:Int)]) (aj (aH .i64) [p.ap,(p.aa.length:Int),(p.ae.length:Int)]),(by intro i hi j hj;match i,j,hi,hj with|0,0,_,_=>rfl|1,0,_,_=>rfl|2,0,_,_=>rfl)⟩]<| .im (.ad 5 69 84 2 (aj Part.cell ([]:List Part)))<| .lp (σ:=((List Part) × Int)) (β:=(List Part)) (([]:List Part),0) [] [(69,38)] ⟨[22,23],[],fun(u3,u0)=>[(5,vO 38 false u3.length),(24,vI u0)],fun(u3,u0)=>[(38,some (aW 84 2 Part.cell u3))]⟩ ⟨[],[],fun u4=>[(5,vO 38 false u4.length)],fun u4=>[(38,some (aW 84 2 Part.cell u4))]⟩
  (fun(u3,u0)=> .r<| .it (.a1 ((0:Int)<=u0/\u0<([p.ap,(p.aa.length:Int),(p.ae.length:Int)].length:Int))<| .r<| .r<| .lp (σ:=((List Part) × Int)) (β:=(List Part)) (u3,0) [] [] ⟨[6,22,23,24,29],[],fun(u2,u1)=>[(5,vO 38 false u2.length),(30,vI u1)],fun(u2,u1)=>[(38,some (aW 84 2 Part.cell u2))]⟩ ⟨[22,23,24],[],fun u5=>[(5,vO 38 false u5.length)],fun u5=>[(38,some (aW 84 2 Part.cell u5))]⟩
  (fun(u2,u1)=> .r<| .it (.r<| .a2 ((u2.length+[K7 u0 u1].length)*16<=140737488355328) (u2.length+[K7 u0 u1].length<=4611686018427387904)<| .rg {an:=[(5, .arr [K7 u0 u1].length (Yx u0 u1)),(6, .arr (Tc u0 u1 u2).length (aj Part.cell (Tc u0 u1 u2)))],fr:=[(5,67),(6,68)]} [.pf ⟨[K7 u0 u1].length=1,rfl⟩, .pf ⟨aF 1 2 (lS 2 [.int .i64 (k11 u0),.int .i64 u1]) (Yx u0 u1),(by intro i hi j hj;match i,j,hi,hj with|0,0,_,_=>rfl|0,1,_,_=>rfl)⟩, .e (u2.length),0,1, .pf ⟨(Tc u0 u1 u2).length=u2.length+[K7 u0 u1].length,cd⟩, .pf ⟨aF (u2.length+[K7 u0 u1].length) 2 (nY (aj Part.cell u2) u2.length (Yx u0 u1)) (aj Part.cell (Tc u0 u1 u2)),bD _ _ _ _⟩]<| .r<| .en (.next (Tc u0 u1 u2,k11 u1)) [] [(68,38)])
  (.e (.done (.brk u2))))
  (fun u5=> .r<| .e (.next (u5,k11 u0))))
  (.e (.done (.brk u3))))
  (fun u4=> .r<| .en (u4,0) [] [(38,0)])))
section
variable (u0:Graph) (a:Int) (b:Int)
abbrev Zh:List (Nat × Option Ob):=[(0,some (.cells 141 [.ptr 1 0])),(1,some (.cells 195 [.own 2 false u0.bh.length,.mp 3,.mp 4])),(2,some (aW 84 2 Part.cell u0.bh)),(3,some (.gm 3 36 3 u0.aG.e0 none)),(4,some (.gm 3 36 3 u0.aG.e1 none))]
abbrev EM:=((aC a u0.aG.e0)++[b])
abbrev Ry:=(aj (aH .i64) (EM u0 a b))
abbrev QH:=((EM u0 a b).length)
end
theorem fw (a:Int) (b:Int) (u0:Graph):dN Tryz.prog 124 [sI a,sI b,.one (.ptr 0 0)] (Zh u0) (fun r=>(.fF [])) (fun r=>[(0,some (.cells 141 [.ptr 1 0])),(1,some (.cells 195 [.own 2 false u0.bh.length,.mp 3,.mp 4])),(2,some (aW 84 2 Part.cell u0.bh)),(3,some (.gm 3 36 3 r.aG.e0 none)),(4,some (.gm 3 36 3 u0.aG.e1 none))]) (dM a b u0):=
  eF tT mX Tryz.func124 (
  .a2 (((aC a u0.aG.e0).length+[b].length)*8<=140737488355328) ((aC a u0.aG.e0).length+[b].length<=4611686018427387904)<| .rg {an:=[(12, .gtk 8 (aC a u0.aG.e0)),(14, .arr [b].length (aj (aH .i64) [b])),(15, .arr (EM u0 a b).length (Ry u0 a b)),(16, .gput (EM u0 a b))],fr:=[(14,9),(15,10)]} [.pf ⟨(0:Int)<=0/\(0:Int)<(2:Nat),(by decide)⟩, .pf ⟨(0:Int)<=0/\(0:Int)<(2:Nat),(by decide)⟩, .pf ⟨(aC a u0.aG.e0)=(aC a u0.aG.e0),rfl⟩, .pf ⟨[b].length=1,rfl⟩, .pf ⟨aF 1 1 (lS 1 [.int .i64 b]) (aj (aH .i64) [b]),(by intro i hi j hj;match i,j,hi,hj with|0,0,_,_=>rfl)⟩, .e ((aC a u0.aG.e0).length),0,1, .pf ⟨(EM u0 a b).length=(aC a u0.aG.e0).length+[b].length,cd⟩, .pf ⟨aF ((aC a u0.aG.e0).length+[b].length) 1 (nY (aj (aH .i64) (aC a u0.aG.e0)) (aC a u0.aG.e0).length (aj (aH .i64) [b])) (Ry u0 a b),bD _ _ _ _⟩, .e (QH u0 a b), .e (QH u0 a b), .pf ⟨aF (QH u0 a b) 1 (Ry u0 a b) (sO (EM u0 a b)),(fun _ _ _ _=>rfl)⟩, .pf ⟨∀n0 c0,(some (a,CV.own 8 false (aC a u0.aG.e0).length):Option (Int × CV))=some (n0,c0)->n0=a,(fun _ _ h=>by cases h;rfl)⟩]<| .e (⟨u0.bh,(⟨eU a (EM u0 a b) u0.aG.e0,u0.aG.e1⟩:aD)⟩:Graph))
theorem dQ (kz:Int) (i:Int) (u0:Graph):dN Tryz.prog 122 [sI kz,sI i,.one (.ptr 0 0)] (Zh u0) (fun r=>(vI r)) (fun r=>(Zh u0)) (bK kz i u0):=
  eF tT mX Tryz.func122 (
  .r<| .cr 7 ⟨fun{r_} hr_=>((Fn.CW (frz:=[2]) (p:=[u0.bh.length=u0.bh.length]) (qX u0.bh (⟨kz,i⟩:Part) hr_) (by kernel_rfl) ⟨rfl,trivial⟩ rfl):Fn Tryz.prog 123 [.one (.own 2 false u0.bh.length),.agg [cI kz,cI i]] [(2,some (aW 84 2 Part.cell u0.bh))] (vI r_) [(2,some (aW 84 2 Part.cell u0.bh))])⟩ fun r_=> .r<| .e r_)
section
variable (v0:List (Int × (List Int))) (u8:Int) (r_:(List Part) × Int) (w0:Graph) (v7:Graph) (v6:Int) (w1:Int) (p:ah) (u0:Int) (u4:Int) (u1:Int) (u2:Int)
abbrev Ia:List (Nat × Option Ob):=[(17,some (.gm 3 36 3 v0 none))]
abbrev SY:=(IntKind.wrap .i64 ((2:Int)*u8))
abbrev Xr:=(IntKind.wrap .i64 ((SY u8)+1))
abbrev JI:=(⟨r_.1,(⟨v0,([]:(List (Int × (List Int))))⟩:aD)⟩:Graph)
abbrev WQ:=(w0.aG.e0,k11 u8)
abbrev YD:=(⟨r_.1,(⟨v7.aG.e0,([]:(List (Int × (List Int))))⟩:aD)⟩:Graph)
abbrev aaP:=(mr [(0,20),(1,19),(2,21),(3,17),(4,18)] (fw (Xr v6) (SY w1) (YD r_ v7)))
abbrev VW:=(at' [(at' p.ae u0.toNat).a,(at' p.ae u0.toNat).b] u4.toNat)
abbrev Qe:=((0:Int)<=u1/\u1<(p.a_.length:Int))
abbrev rP:=((at' p.a_ u1.toNat).ba)
abbrev RJ:=(at' [(rP p u1).e0,(rP p u1).e1] u2.toNat)
abbrev Iy:=((rP p u1).e0)
abbrev JK:=((rP p u1).e1)
abbrev Qy:List CV:=[cI (Iy p u1),cI (JK p u1)]
end
theorem yH (p:ah) (s_:State) (u1:Int):dN Tryz.prog 70 (CJ p s_ u1) [] (fun r=>(vP 0 0)) (fun r=>[(0,some (.cells 195 [.own 1 false r.bh.length,.mp 2,.mp 3])),(1,some (aW 84 2 Part.cell r.bh)),(2,some (.gm 3 36 3 r.aG.e0 none)),(3,some (.gm 3 36 3 r.aG.e1 none))]) (kN p s_ u1):=
  eF tT mX Tryz.func70 (
  .rg {fr:=[(0,15),(1,16)],fz:=[16]} []<| .rg {an:=[(0, .gput []),(1, .gput [])],fr:=[(0,17),(1,18),(4,19),(5,20)]} []<| .cl 2 (mr [(0,21)] (sF p)) fun r_=> .r<| .r<| .r<| .r<| .lp (σ:=((List (Int × (List Int))) × Int)) (β:=(List (Int × (List Int)))) (([]:(List (Int × (List Int)))),0) [] [] ⟨[2,3,4,7,8,9,40],[15,18,19,20,21],fun(v0,u8)=>[(41,vI u8)],fun(v0,u8)=>(Ia v0)⟩ ⟨[2,3,4,7,8,9],[15,18,19,20,21],fun v1=>[],fun v1=>(Ia v1)⟩
  (fun(v0,u8)=> .r<| .it (.r<| .cl 6 (mr [(0,20),(1,19),(2,21),(3,17),(4,18)] (fw (SY u8) (Xr u8) (JI v0 r_))) fun w0=> .r<| .r<| .e (.next (WQ u8 w0)))
  (.e (.done (.brk v0))))
  (fun v1=> .r<| .lp (σ:=((List (Int × (List Int))) × Int)) (β:=(List (Int × (List Int)))) (v1,0) [] [] ⟨[2,3,4,7,8,9,53,54],[15,18,19,20,21],fun(u5,u3)=>[(55,vI u3)],fun(u5,u3)=>(Ia u5)⟩ ⟨[2,3,4,7,8,9],[15,18,19,20,21],fun v2=>[],fun v2=>(Ia v2)⟩
  (fun(u5,u3)=> .r<| .it (.a1 (k76 u3 p)<| .rg {fr:=[(3,25)],fz:=[25]} []<| .a3 ((0:Int)<=u3/\u3<(s_.on_.length:Int)) (k77 u3 s_) (k78 u3 p s_)<| .rg {} [0,1,2]<| .it (.cr 2 (mr [(0,20),(1,19),(2,21),(3,17),(4,18)] (dQ 2 u3 (JI u5 r_))) fun v6=> .r<| .cl 3 (mr [(0,20),(1,19),(2,21),(3,17),(4,18)] (fw (-1) (SY v6) (JI u5 r_))) fun v7=> .r<| .cr 7 (mr [(0,20),(1,19),(2,21),(3,17),(4,18)] (dQ 1 ((at' p.aa u3.toNat).bus) (YD r_ v7))) fun w1=> .cl 9 (aaP r_ v7 v6 w1) fun w2=> .r<| .r<| .e (.next (WQ u3 w2)))
  (.r<| .e (.next (u5,k11 u3))))
  (.e (.done (.brk u5))))
  (fun v2=> .rg {fz:=[15]} []<| .lp (σ:=((List (Int × (List Int))) × Int)) (β:=(List (Int × (List Int)))) (v2,0) [] [] ⟨[2,3,4,7,8,9,101,102],[18,19,20,21],fun(u6,u0)=>[(103,vI u0)],fun(u6,u0)=>(Ia u6)⟩ ⟨[2,3,4,7,8,9],[18,19,20,21],fun v3=>[],fun v3=>(Ia v3)⟩
  (fun(u6,u0)=> .r<| .it (.a1 (Zd p u0)<| .rg {fr:=[(3,29)],fz:=[29]} []<| .a4 ((0:Int)<=u0/\u0<(s_.aq.length:Int)) ((gB [(!(at' s_.aq u0.toNat),false)]=true->(0:Int)<=u0/\u0<(s_.am.length:Int))) ((gB [((bif (!(at' s_.aq u0.toNat))then true else(at' s_.am u0.toNat)),false)]=true->(0:Int)<=(at' p.ae u0.toNat).a/\(at' p.ae u0.toNat).a<(s_.al.length:Int))) ((gB [((bif (bif (!(at' s_.aq u0.toNat))then true else(at' s_.am u0.toNat))then true else(at' s_.al (((at' p.ae u0.toNat).a).toNat))),false)]=true->(0:Int)<=(at' p.ae u0.toNat).b/\(at' p.ae u0.toNat).b<(s_.al.length:Int)))<| .rg {} [0,1,2,3]<| .it (.r<| .e (.next (u6,k11 u0)))
  (.cr 2 (mr [(0,20),(1,19),(2,21),(3,17),(4,18)] (dQ 3 u0 (JI u6 r_))) fun v8=> .r<| .r<| .lp (σ:=((List (Int × (List Int))) × Int)) (β:=(List (Int × (List Int)))) (u6,0) [] [] ⟨[2,3,4,7,8,9,16,101,102,103,144],[18,19,20,21],fun(u9,u4)=>[(145,vI u4)],fun(u9,u4)=>(Ia u9)⟩ ⟨[2,3,4,7,8,9,101,102,103],[18,19,20,21],fun v4=>[],fun v4=>(Ia v4)⟩
  (fun(u9,u4)=> .r<| .it (.a1 ((0:Int)<=u4/\u4<((2:Nat):Int))<| .rg {an:=[(0, .vals [.int .i64 (VW p u0 u4)])]} [0, .dv 0 ⟨(0:Int)<=u4/\u4<((2:Nat):Int),u4.toNat*1+1<=[cI ((at' p.ae u0.toNat).a),cI ((at' p.ae u0.toNat).b)].length,fun ax=>aaH (n:=2) (sz:=1) (cz _) ax⟩, .dv 0 ⟨(0:Int)<=u4/\u4<((2:Nat):Int),([cI ((at' p.ae u0.toNat).a),cI ((at' p.ae u0.toNat).b)].drop (u4.toNat*1)).take 1=[.int .i64 (VW p u0 u4)].map .d,fun ax=>aao (n:=2) (sz:=1) (g:=fun q=>[cI (at' [(at' p.ae u0.toNat).a,(at' p.ae u0.toNat).b] q)]) (by intro q hq;match q,hq with|0,_=>rfl|1,_=>rfl) ax⟩]<| .cr 3 (mr [(0,20),(1,19),(2,21),(3,17),(4,18)] (dQ 1 (VW p u0 u4) (JI u9 r_))) fun w3=> .cl 8 (mr [(0,20),(1,19),(2,21),(3,17),(4,18)] (fw (Xr w3) (SY v8) (JI u9 r_))) fun v9=> .r<| .cr 6 (mr [(0,20),(1,19),(2,21),(3,17),(4,18)] (dQ 1 (VW p u0 u4) (YD r_ v9))) fun w4=> .cl 8 (aaP r_ v9 v8 w4) fun w5=> .r<| .r<| .e (.next (WQ u4 w5)))
  (.e (.done (.brk u9))))
  (fun v4=> .r<| .e (.next (v4,k11 u0)))))
  (.e (.done (.brk u6))))
  (fun v3=> .a1 (Qe p u1)<| .r<| .lp (σ:=((List (Int × (List Int))) × Int)) (β:=(List (Int × (List Int)))) (v3,0) [] [] ⟨[4,7,8,9,173],[18,19,20,21],fun(u7,u2)=>[(174,vI u2)],fun(u7,u2)=>(Ia u7)⟩ ⟨[7],[18,19,20,21],fun v5=>[],fun v5=>(Ia v5)⟩
  (fun(u7,u2)=> .r<| .it (.a1 ((0:Int)<=u2/\u2<((2:Nat):Int))<| .rg {an:=[(0, .vals [.int .i64 (RJ p u1 u2)])]} [0, .dv 0 ⟨(0:Int)<=u2/\u2<((2:Nat):Int),u2.toNat*1+1<=(Qy p u1).length,fun ax=>aaH (n:=2) (sz:=1) (cz _) ax⟩, .dv 0 ⟨(0:Int)<=u2/\u2<((2:Nat):Int),((Qy p u1).drop (u2.toNat*1)).take 1=[.int .i64 (RJ p u1 u2)].map .d,fun ax=>aao (n:=2) (sz:=1) (g:=fun q=>[cI (at' [(rP p u1).e0,(rP p u1).e1] q)]) (by intro q hq;match q,hq with|0,_=>rfl|1,_=>rfl) ax⟩]<| .a1 ((gB [(decide (0<=(RJ p u1 u2)),true)]=true->(0:Int)<=(RJ p u1 u2)/\(RJ p u1 u2)<(s_.al.length:Int)))<| .r<| .it (.cr 3 (mr [(0,20),(1,19),(2,21),(3,17),(4,18)] (dQ 1 (RJ p u1 u2) (JI u7 r_))) fun w6=> .cl 6 (mr [(0,20),(1,19),(2,21),(3,17),(4,18)] (fw (Xr w6) (-2) (JI u7 r_))) fun w7=> .r<| .r<| .e (.next (WQ u2 w7)))
  (.r<| .e (.next (u7,k11 u2))))
  (.e (.done (.brk u7))))
  (fun v5=> .r<| .en (JI v5 r_) [] [(19,0),(21,1),(17,2),(18,3)])))))
theorem rO (s_:List Int) (u0:Bool):dN Tryz.prog 126 [sD (aZ (some u0) 1 (aH .i64) s_)] [] (fun r=>(vO 0 false r.length)) (fun r=>[(0,some (aW 3 1 (aH .i64) r))]) (pK s_ u0):=
  eF tT mX Tryz.func126 (
  .r<| .r<| .it (.r<| .im (.ad 2 2 3 1 (aj (aH .i64) ([]:List Int)))<| .en ([]:List Int) [] [(2,0)])
  (.a2 ((([]:List Int).length+s_.length)*8<=140737488355328) (([]:List Int).length+s_.length<=4611686018427387904)<| .rg {an:=[(0, .arr ([]:List Int).length (aj (aH .i64) ([]:List Int))),(2, .arr (([]:List Int)++s_).length (aj (aH .i64) (([]:List Int)++s_)))],fr:=[(0,3),(2,4)]} [.pf ⟨([]:List Int).length=0,rfl⟩, .pf ⟨aF 0 1 (lS 1 []) (aj (aH .i64) ([]:List Int)),(fun i hi=>absurd hi (cM i))⟩, .e (([]:List Int).length),0,1, .pf ⟨(([]:List Int)++s_).length=([]:List Int).length+s_.length,cd⟩, .pf ⟨aF (([]:List Int).length+s_.length) 1 (nY (aj (aH .i64) ([]:List Int)) ([]:List Int).length (aj (aH .i64) s_)) (aj (aH .i64) (([]:List Int)++s_)),bD _ _ _ _⟩]<| .en (([]:List Int)++s_) [] [(4,0)]))
theorem xP (s:List Int) {r:List Int} (h:jQ s=some r):Fn Tryz.prog 126 [sD (aZ none 1 (aH .i64) s)] [] (vO 0 false r.length) [(0,some (aW 3 1 (aH .i64) r))]:=by
 refine Fn.nn (rO s true h) fun hl=> ?_
 have hs:s=[]:=List.eq_nil_of_length_eq_zero hl
 subst hs
 exact rO [] false (by rw [<-h];kernel_rfl)
theorem mW (s_:List Int) (v_:Int):dN Tryz.prog 169 [sD (aZ none 1 (aH .i64) s_),sI v_] [] (fun r=>(vI r)) (fun _=>[]) (fG s_ v_):=
  eF tT mX Tryz.func169 (
  .r<| .r<| .lp (σ:=Int) (β:=Unit) (0) [] [] ⟨[0,1,7],[],fun t8=>[(8,vI t8)],fun t8=>[]⟩ ⟨[],[],fun _=>[],fun _=>[]⟩
  (fun t8=> .r<| .it (.r<| .a1 ((0:Int)<=t8/\t8<(s_.length:Int))<| .r<| .it (.r<| .e (.done (.ret t8)))
  (.r<| .e (.next (k11 t8))))
  (.e (.done (.brk ()))))
  (fun _=> .r<| .e (-1)))
theorem uG (s:List Int) (i j:Int) {r:List Int} (h:lC s i j=some r):Fn Tryz.prog 170 [.one (.own 0 false s.length),sI i,sI j] [(0,some (aW 3 1 (aH .i64) s))] (vO 0 false r.length) [(0,some (aW 3 1 (aH .i64) r))]:=
 UN Wm 170 rfl ⟨_,Tryz.func170,rfl,rfl⟩ s i j h
section
variable (u0:Graph) (a:Int)
abbrev V4:Nat × Option Ob:=(0,some (.cells 195 [.own 1 false u0.bh.length,.mp 2,.mp 3]))
abbrev Xp:Nat × Option Ob:=(1,some (aW 84 2 Part.cell u0.bh))
abbrev aaZ:List (Nat × Option Ob):=[V4 u0,Xp u0,(2,some (.gm 3 36 3 u0.aG.e0 none)),(3,some (.gm 3 36 3 u0.aG.e1 none))]
abbrev Zg:List (Nat × Option Ob):=[(12,some (aW 3 1 (aH .i64) (aC a u0.aG.e0)))]
end
theorem qA (a:Int) (b:Int) (u3:Int) (u0:Graph):dN Tryz.prog 127 [.one (.ptr 0 0),sI a,sI b,sI u3] (aaZ u0) (fun r=>(.fF [])) (fun r=>[V4 u0,Xp u0,(2,some (.gm 3 36 3 r.aG.e0 none)),(3,some (.gm 3 36 3 r.aG.e1 none))]) (fo a b u3 u0):=
  eF tT mX Tryz.func127 (
  .fk (decide (u3=0)) (.si 3 u3 0 0<| .rg {an:=[(7, .gtk 12 (aC a u0.aG.e0))]} [.pf ⟨(0:Int)<=0/\(0:Int)<(2:Nat),(by decide)⟩, .pf ⟨(aC a u0.aG.e0)=(aC a u0.aG.e0),rfl⟩]<| .cr 2 ⟨fun{r_} hr_=>((Fn.CW (frz:=[12]) (p:=[(aC a u0.aG.e0).length=(aC a u0.aG.e0).length]) (mW (aC a u0.aG.e0) b hr_) (by kernel_rfl) ⟨rfl,trivial⟩ rfl):Fn Tryz.prog 169 [.one (.own 12 false ((aC a u0.aG.e0).length)),sI b] (Zg u0 a) (vI r_) (Zg u0 a))⟩ fun r_=> .r<| .cl 11 (mr [(0,12)] ⟨fun h=>uG (aC a u0.aG.e0) r_ (k11 r_) h⟩) fun u1=> .rg {an:=[(12, .gput u1)]} [.pf ⟨(0:Int)<=0/\(0:Int)<(2:Nat),(by decide)⟩,0, .e (u1.length), .e (u1.length), .pf ⟨aF u1.length 1 (aj (aH .i64) u1) (sO u1),(fun _ _ _ _=>rfl)⟩, .pf ⟨∀n0 c0,(some (a,CV.own 12 false (aC a u0.aG.e0).length):Option (Int × CV))=some (n0,c0)->n0=a,(fun _ _ h=>by cases h;rfl)⟩]<| .a2 (((aC a u0.aG.e1).length+[b].length)*8<=140737488355328) ((aC a u0.aG.e1).length+[b].length<=4611686018427387904)<| .rg {an:=[(16, .gtk 13 (aC a u0.aG.e1)),(18, .arr [b].length (aj (aH .i64) [b])),(19, .arr ((aC a u0.aG.e1)++[b]).length (aj (aH .i64) ((aC a u0.aG.e1)++[b]))),(20, .gput ((aC a u0.aG.e1)++[b]))],fr:=[(18,14),(19,15)]} [.pf ⟨(0:Int)<=1/\(1:Int)<(2:Nat),(by decide)⟩, .pf ⟨(0:Int)<=1/\(1:Int)<(2:Nat),(by decide)⟩, .pf ⟨(aC a u0.aG.e1)=(aC a u0.aG.e1),rfl⟩, .pf ⟨[b].length=1,rfl⟩, .pf ⟨aF 1 1 (lS 1 [.int .i64 b]) (aj (aH .i64) [b]),(by intro i hi j hj;match i,j,hi,hj with|0,0,_,_=>rfl)⟩, .e ((aC a u0.aG.e1).length),0,1, .pf ⟨((aC a u0.aG.e1)++[b]).length=(aC a u0.aG.e1).length+[b].length,cd⟩, .pf ⟨aF ((aC a u0.aG.e1).length+[b].length) 1 (nY (aj (aH .i64) (aC a u0.aG.e1)) (aC a u0.aG.e1).length (aj (aH .i64) [b])) (aj (aH .i64) ((aC a u0.aG.e1)++[b])),bD _ _ _ _⟩, .e (((aC a u0.aG.e1)++[b]).length), .e (((aC a u0.aG.e1)++[b]).length), .pf ⟨aF (((aC a u0.aG.e1)++[b]).length) 1 (aj (aH .i64) ((aC a u0.aG.e1)++[b])) (sO ((aC a u0.aG.e1)++[b])),(fun _ _ _ _=>rfl)⟩, .pf ⟨∀n0 c0,(some (a,CV.own 13 false (aC a u0.aG.e1).length):Option (Int × CV))=some (n0,c0)->n0=a,(fun _ _ h=>by cases h;rfl)⟩]<| .e (⟨u0.bh,(⟨eU a u1 u0.aG.e0,eU a ((aC a u0.aG.e1)++[b]) u0.aG.e1⟩:aD)⟩:Graph))
  (.a1 (u3=1)<| .sj 3 u3 1 0<| .rg {an:=[(7, .gtk 16 (aC a u0.aG.e1))]} [.pf ⟨(0:Int)<=1/\(1:Int)<(2:Nat),(by decide)⟩, .pf ⟨(aC a u0.aG.e1)=(aC a u0.aG.e1),rfl⟩]<| .cr 2 ⟨fun{u4} hr_2=>((Fn.CW (frz:=[16]) (p:=[(aC a u0.aG.e1).length=(aC a u0.aG.e1).length]) (mW (aC a u0.aG.e1) b hr_2) (by kernel_rfl) ⟨rfl,trivial⟩ rfl):Fn Tryz.prog 169 [.one (.own 16 false ((aC a u0.aG.e1).length)),sI b] [(16,some (aW 3 1 (aH .i64) (aC a u0.aG.e1)))] (vI u4) [(16,some (aW 3 1 (aH .i64) (aC a u0.aG.e1)))])⟩ fun u4=> .r<| .cl 11 (mr [(0,16)] ⟨fun h=>uG (aC a u0.aG.e1) u4 (k11 u4) h⟩) fun u2=> .rg {an:=[(12, .gput u2)]} [.pf ⟨(0:Int)<=1/\(1:Int)<(2:Nat),(by decide)⟩,0, .e (u2.length), .e (u2.length), .pf ⟨aF u2.length 1 (aj (aH .i64) u2) (sO u2),(fun _ _ _ _=>rfl)⟩, .pf ⟨∀n0 c0,(some (a,CV.own 16 false (aC a u0.aG.e1).length):Option (Int × CV))=some (n0,c0)->n0=a,(fun _ _ h=>by cases h;rfl)⟩]<| .a2 (((aC a u0.aG.e0).length+[b].length)*8<=140737488355328) ((aC a u0.aG.e0).length+[b].length<=4611686018427387904)<| .rg {an:=[(16, .gtk 17 (aC a u0.aG.e0)),(18, .arr [b].length (aj (aH .i64) [b])),(19, .arr (EM u0 a b).length (Ry u0 a b)),(20, .gput (EM u0 a b))],fr:=[(18,18),(19,19)]} [.pf ⟨(0:Int)<=0/\(0:Int)<(2:Nat),(by decide)⟩, .pf ⟨(0:Int)<=0/\(0:Int)<(2:Nat),(by decide)⟩, .pf ⟨(aC a u0.aG.e0)=(aC a u0.aG.e0),rfl⟩, .pf ⟨[b].length=1,rfl⟩, .pf ⟨aF 1 1 (lS 1 [.int .i64 b]) (aj (aH .i64) [b]),(by intro i hi j hj;match i,j,hi,hj with|0,0,_,_=>rfl)⟩, .e ((aC a u0.aG.e0).length),0,1, .pf ⟨(EM u0 a b).length=(aC a u0.aG.e0).length+[b].length,cd⟩, .pf ⟨aF ((aC a u0.aG.e0).length+[b].length) 1 (nY (aj (aH .i64) (aC a u0.aG.e0)) (aC a u0.aG.e0).length (aj (aH .i64) [b])) (Ry u0 a b),bD _ _ _ _⟩, .e (QH u0 a b), .e (QH u0 a b), .pf ⟨aF (QH u0 a b) 1 (Ry u0 a b) (sO (EM u0 a b)),(fun _ _ _ _=>rfl)⟩, .pf ⟨∀n0 c0,(some (a,CV.own 17 false (aC a u0.aG.e0).length):Option (Int × CV))=some (n0,c0)->n0=a,(fun _ _ h=>by cases h;rfl)⟩]<| .e (⟨u0.bh,(⟨eU a (EM u0 a b) u0.aG.e0,eU a u2 u0.aG.e1⟩:aD)⟩:Graph)))
theorem kG (s_:List Int) (v_:Int):dN Tryz.prog 128 [sD (aZ none 1 (aH .i64) s_),sI v_] [] (fun r=>(vB r)) (fun _=>[]) (di s_ v_):=
  eF tT mX Tryz.func128 (
  .r<| .cl 2 (mW s_ v_) fun r_=> .r<| .e (decide (0<=r_)))
section
variable (u1:Int) (o_:List (Int × Bool)) (u0:Graph) (o0:List (Int × Bool)) (u5:List (Int × (List Int))) (u6:List (Int × (List Int))) (r_:List Int) (u3:Int) (x:Int × List Int) (u2:List (Int × Bool))
abbrev YH:List SV:=[sI u1,.one (.ptr 0 0),.one (.ptr 1 0),.one (.ptr 2 0)]
abbrev WG:Nat × Option Ob:=(1,some (.cells 141 [.ptr 4 0]))
abbrev WZ:Nat × Option Ob:=(2,some (.cells 169 [.fn 125 0 3 (Ut [.ptr 0 0,.ptr 1 0,.ptr 2 0])]))
abbrev YV:Nat × Option Ob:=(3,some (Kw 3 4 false false 1 1 (aH .i64) af o_))
abbrev Xa:Nat × Option Ob:=(4,some (.cells 195 [.own 5 false u0.bh.length,.mp 6,.mp 7]))
abbrev Vu:Nat × Option Ob:=(5,some (aW 84 2 Part.cell u0.bh))
abbrev Yp:List (Nat × Option Ob):=[(0,some (.cells 198 [.mp 3])),WG,WZ,YV o_,Xa u0,Vu u0,(6,some (.gm 3 36 3 u0.aG.e0 none)),(7,some (.gm 3 36 3 u0.aG.e1 none))]
abbrev aa6:List (Nat × Option Ob):=[YV o0,(6,some (.gm 3 36 3 u5 none)),(7,some (.gm 3 36 3 u6 none))]
abbrev Tn:=(⟨u0.bh,(⟨u5,u6⟩:aD)⟩:Graph)
abbrev VD:List CV:=[cB ((bA cZ (at' r_ u3.toNat) o0).getD false)]
abbrev Sl:List CV:=[cB ((bA cZ x.1 u2).getD false)]
end
theorem qz (v2:Int->(List (Int × Bool))->Graph->Option (Bool × (List (Int × Bool)) × Graph)) (rec_ok: ∀(u1:Int) (o_:List (Int × Bool)) (u0:Graph) (r:Bool × (List (Int × Bool)) × Graph),v2 u1 o_ u0=some r->Fn Tryz.prog 125 (YH u1) (Yp o_ u0) ((fun r=>(vB r.1)) r) ((fun r=>[(0,some (.cells 198 [.mp 3])),WG,WZ,(3,some (Kw 3 4 false false 1 1 (aH .i64) af r.2.1)),Xa u0,Vu u0,(6,some (.gm 3 36 3 r.2.2.aG.e0 none)),(7,some (.gm 3 36 3 r.2.2.aG.e1 none))]) r)) (u1:Int) (o_:List (Int × Bool)) (u0:Graph):dN Tryz.prog 125 (YH u1) (Yp o_ u0) (fun r=>(vB r.1)) (fun r=>[(0,some (.cells 198 [.mp 3])),WG,WZ,(3,some (Kw 3 4 false false 1 1 (aH .i64) af r.2.1)),Xa u0,Vu u0,(6,some (.gm 3 36 3 r.2.2.aG.e0 none)),(7,some (.gm 3 36 3 r.2.2.aG.e1 none))]) (fe v2 u1 o_ u0):=
  eF tT mX Tryz.func125 (
  .r<| .r<| .it (.r<| .e (true,o_,u0))
  (.rg {an:=[(2, .map (gW cZ u1 true o_).length (yJ (aH .i64) (gW cZ u1 true o_)) (yM af (gW cZ u1 true o_)) [])]} [.pf ⟨qY [some .i64] 1 1 o_.length (yJ (aH .i64) o_) (yM af o_) [.int .i64 u1] [cB true] [] (gW cZ u1 true o_).length (yJ (aH .i64) (gW cZ u1 true o_)) (yM af (gW cZ u1 true o_)),FH (fun _=>rfl) (fun _ _=>rfl) o_ u1 true rfl rfl⟩]<| .cl 7 ⟨fun{r_} hr_=>((Fn.uj (args:=[sD (aZ none 1 (aH .i64) (aC u1 u0.aG.e0))]) (frz:=[12]) (p:=[(aC u1 u0.aG.e0).length=(aC u1 u0.aG.e0).length]) (Fn.yK [(0,13)] (xP (aC u1 u0.aG.e0) hr_) (by kernel_rfl) (by kernel_rfl) (by kernel_rfl) (by kernel_rfl)) (by kernel_rfl) ⟨rfl,trivial⟩ (by kernel_rfl) ⟨(fun _ _=>rfl),trivial⟩ (by kernel_rfl)):Fn Tryz.prog 126 [.one (.own 12 false ((aC u1 u0.aG.e0).length))] (Zg u0 u1) (vO 13 false r_.length) [(12,some (aW 3 1 (aH .i64) (aC u1 u0.aG.e0))),(13,some (aW 3 1 (aH .i64) r_))])⟩ fun r_=> .rg {an:=[(6, .gtk 12 (aC u1 u0.aG.e0))],fz:=[13]} [.pf ⟨(0:Int)<=0/\(0:Int)<(2:Nat),(by decide)⟩, .pf ⟨(aC u1 u0.aG.e0)=(aC u1 u0.aG.e0),rfl⟩,0]<| .im (.gf 6 12 3 36 3 u0.aG.e0 u1 false ((aC u1 u0.aG.e0).length) ((aC u1 u0.aG.e0).length) (aj (aH .i64) (aC u1 u0.aG.e0)) rfl rfl (fun _ _ _ _=>rfl))<| .lp (σ:=((List (Int × Bool)) × (List (Int × (List Int))) × (List (Int × (List Int))) × Int)) (β:=((List (Int × Bool)) × (List (Int × (List Int))) × (List (Int × (List Int))))) (gW cZ u1 true o_,u0.aG.e0,u0.aG.e1,0) [] [] ⟨[0,1,2,3,21,22],[0,1,2,4,5],fun(o0,u5,u6,u3)=>[(23,vI u3)],fun(o0,u5,u6,u3)=>(aa6 o0 u5 u6)⟩ ⟨[0,1,2,3],[0,1,2,4,5],fun(v0,v1,u4)=>[],fun(v0,v1,u4)=>(aa6 v0 v1 u4)⟩
  (fun(o0,u5,u6,u3)=> .r<| .it (.a1 ((0:Int)<=u3/\u3<(r_.length:Int))<| .r<| .fk (!((bA cZ (at' r_ u3.toNat) o0).getD false)) (.cl 7 ⟨fun h=>rec_ok (at' r_ u3.toNat) o0 (Tn u0 u5 u6) _ h⟩ fun u9=> .rg {an:=[(2, .look (bA cZ (at' r_ u3.toNat) o0).isSome (VD o0 r_ u3))],ov:=[(4,true,1)]} [.pf ⟨kR [some .i64] 1 1 o0.length (yJ (aH .i64) o0) (yM af o0) [.int .i64 (at' r_ u3.toNat)] [.d (.bool false)] (bA cZ (at' r_ u3.toNat) o0).isSome (VD o0 r_ u3),lH (fun _=>rfl) (fun _ _=>rfl) o0 (at' r_ u3.toNat) false rfl rfl rfl⟩, .k 0]<| .it (.cl 3 (mr [(0,4),(1,5),(2,6),(3,7)] (qA u1 (at' r_ u3.toNat) 0 (⟨u0.bh,u9.2.2.aG⟩:Graph))) fun v4=> .r<| .r<| .e (.done (.ret (true,u9.2.1,(⟨u0.bh,v4.aG⟩:Graph)))))
  (.r<| .e (.next (u9.2.1,u9.2.2.aG.e0,u9.2.2.aG.e1,k11 u3))))
  (.rg {an:=[(2, .look (bA cZ (at' r_ u3.toNat) o0).isSome (VD o0 r_ u3))],ov:=[(4,false,0)],sk:=[5,6,7]} [.pf ⟨kR [some .i64] 1 1 o0.length (yJ (aH .i64) o0) (yM af o0) [.int .i64 (at' r_ u3.toNat)] [.d (.bool false)] (bA cZ (at' r_ u3.toNat) o0).isSome (VD o0 r_ u3),lH (fun _=>rfl) (fun _ _=>rfl) o0 (at' r_ u3.toNat) false rfl rfl rfl⟩]<| .f<| .r<| .e (.next (o0,u5,u6,k11 u3))))
  (.e (.done (.brk (o0,u5,u6)))))
  (fun(v0,v1,u4)=> .gr (σ:=((List (Int × Bool)) × (List (Int × (List Int))))) 7 14 15 3 36 3 u4 (bG u1) (fO v2 u1 u0 u4) (by intro x hx z;obtain⟨_,_⟩:=z;dsimp only [fO];exact Yr hx rfl) {} [.pf ⟨(0:Int)<=1/\(1:Int)<(2:Nat),(by decide)⟩] ⟨[0,1,2,3,46],[0,1,2,4,5,7,14],fun(u2,u7)=>[],fun(u2,u7)=>[YV u2,(6,some (.gm 3 36 3 u7 none))]⟩ (v0,v1) [] [] (fun x=>fun(u2,u7)=> .fk (bif (!((bA cZ x.1 u2).getD false))then(!decide (x.1=(-1)))else false) (.cG 11 7 15 ⟨fun{v3} hr_3=>((Fn.CW (frz:=[15]) (p:=[x.2.length=x.2.length]) (kG x.2 u1 hr_3) (by kernel_rfl) ⟨rfl,trivial⟩ rfl):Fn Tryz.prog 128 [.one (.own 15 false x.2.length),sI u1] [(15,some (aW 3 1 (aH .i64) x.2))] (vB v3) [(15,some (aW 3 1 (aH .i64) x.2))])⟩ fun v3=> .fk v3 (.cl 16 ⟨fun h=>rec_ok x.1 u2 (Tn u0 u7 u4) _ h⟩ fun u8=> .rg {an:=[(2, .look (bA cZ x.1 u2).isSome (Sl x u2))],ov:=[(8,true,3),(13,true,1)]} [.pf ⟨kR [some .i64] 1 1 u2.length (yJ (aH .i64) u2) (yM af u2) [.int .i64 x.1] [.d (.bool false)] (bA cZ x.1 u2).isSome (Sl x u2),lH (fun _=>rfl) (fun _ _=>rfl) u2 x.1 false rfl rfl rfl⟩, .e (x.2.length), .dk 4 ⟨(aC x.1 u4)=x.2,x.2.length=(aC x.1 u4).length,fun ax=>(by rw [ax])⟩, .dk 4 ⟨(aC x.1 u4)=x.2,aF x.2.length 1 (aj (aH .i64) x.2) (sO (aC x.1 u4)),fun ax=>(by rw [ax];exact fun _ _ _ _=>rfl)⟩, .k 2, .k 0]<| .it (.cl 3 (mr [(0,4),(1,5),(2,6),(3,7)] (qA x.1 u1 1 (⟨u0.bh,u8.2.2.aG⟩:Graph))) fun v5=> .r<| .r<| .e (.done (.ret (true,u8.2.1,(⟨u0.bh,v5.aG⟩:Graph)))))
  (.a1 (u8.2.2.aG.e1=u4)<| .ge 7 3 36 3 u8.2.2.aG.e1 u4 0<| .e (.next (u8.2.1,u8.2.2.aG.e0))))
  (.rg {an:=[(2, .look (bA cZ x.1 u2).isSome (Sl x u2))],ov:=[(8,true,2),(13,false,0)],sk:=[14,15,16]} [.pf ⟨kR [some .i64] 1 1 u2.length (yJ (aH .i64) u2) (yM af u2) [.int .i64 x.1] [.d (.bool false)] (bA cZ x.1 u2).isSome (Sl x u2),lH (fun _=>rfl) (fun _ _=>rfl) u2 x.1 false rfl rfl rfl⟩, .e (x.2.length), .dk 3 ⟨(aC x.1 u4)=x.2,x.2.length=(aC x.1 u4).length,fun ax=>(by rw [ax])⟩, .dk 3 ⟨(aC x.1 u4)=x.2,aF x.2.length 1 (aj (aH .i64) x.2) (sO (aC x.1 u4)),fun ax=>(by rw [ax];exact fun _ _ _ _=>rfl)⟩, .k 1]<| .f<| .e (.next (u2,u7))))
  (.rg {an:=[(2, .look (bA cZ x.1 u2).isSome (Sl x u2))],ov:=[(8,false,0)],sk:=[9,10,11,14,15,16]} [.pf ⟨kR [some .i64] 1 1 u2.length (yJ (aH .i64) u2) (yM af u2) [.int .i64 x.1] [.d (.bool false)] (bA cZ x.1 u2).isSome (Sl x u2),lH (fun _=>rfl) (fun _ _=>rfl) u2 x.1 false rfl rfl rfl⟩]<| .gh 7 15 3 36 3 u4 x.1 x.2 false x.2.length x.2.length (aj (aH .i64) x.2) rfl rfl (fun _ _ _ _=>rfl) 1<| .f<| .e (.next (u2,u7))))
  (fun(v6,v7)=> .r<| .e (false,v6,Tn u0 v7 u4)))))
theorem mV: ∀(n:Nat) (u1:Int) (o_:List (Int × Bool)) (u0:Graph),dN Tryz.prog 125 (YH u1) (Yp o_ u0) (fun r=>(vB r.1)) (fun r=>[(0,some (.cells 198 [.mp 3])),WG,WZ,(3,some (Kw 3 4 false false 1 1 (aH .i64) af r.2.1)),Xa u0,Vu u0,(6,some (.gm 3 36 3 r.2.2.aG.e0 none)),(7,some (.gm 3 36 3 r.2.2.aG.e1 none))]) (bJ n u1 o_ u0)
 |0,_,_,_=> ⟨fun h=>by cases h⟩
 |n+1,u1,o_,u0=>qz (bJ n) (fun u1 o_ u0 _ h=>mV n u1 o_ u0 h) u1 o_ u0
theorem vK (u0:Graph):dN Tryz.prog 71 [.one (.ptr 0 0)] (aaZ u0) (fun r=>(vB r.1)) (fun r=>[V4 u0,Xp u0,(2,some (.gm 3 36 3 r.2.aG.e0 none)),(3,some (.gm 3 36 3 r.2.aG.e1 none))]) (dK u0):=
  eF tT mX Tryz.func71 (
  .rg {fr:=[(0,8)]} []<| .rg {an:=[(0, .map 0 (yJ (aH .i64) ([]:(List (Int × Bool)))) (yM af ([]:(List (Int × Bool)))) [])],fr:=[(0,9),(1,10)]} []<| .rg {fr:=[(0,11)]} []<| .r<| .cl 1 (mr [(0,10),(1,8),(2,11),(3,9),(4,0),(5,1),(6,2),(7,3)] (mV FUEL (-1) ([]:(List (Int × Bool))) u0)) fun r_=> .r<| .e (r_.1,(⟨u0.bh,r_.2.2.aG⟩:Graph)))
section
variable (u0:Graph) (u3:List (List Part)) (u1:Int) (u4:List Part) (u2:List Part)
abbrev abE:List (Nat × Option Ob):=[V4 u0,Xp u0,(2,some (Kw 3 36 false false 1 1 (aH .i64) (wC 1 (aH .i64)) u0.aG.e0)),(3,some (Kw 3 36 false false 1 1 (aH .i64) (wC 1 (aH .i64)) u0.aG.e1))]
abbrev Ii:Ob:=(aW 48 1 (wC 2 Part.cell) u3)
abbrev Iq:=(at' u0.bh ((IntKind.wrap .i64 (Int.tdiv u1 2)).toNat))
abbrev Zj:=(aj Part.cell [Iq u0 u1])
abbrev SF:=(u4++[Iq u0 u1])
abbrev Yj:=((bA cZ (k11 u1) u0.aG.e1).getD ([]:List Int))
abbrev abG:List CV:=[.d (aZ none 1 (aH .i64) (Yj u0 u1))]
abbrev Gm:=(aj (wC 2 Part.cell) [u2])
end
theorem yF (u0:Graph):dN Tryz.prog 72 [.one (.ptr 0 0)] (abE u0) (fun r=>(vD (aZ none 1 (wC 2 Part.cell) r))) (fun r=>(abE u0)) (dS u0):=
  eF tT mX Tryz.func72 (
  .r<| .r<| .rg {an:=[(5, .look (bA cZ (-1) u0.aG.e1).isSome [.d (aZ none 1 (aH .i64) ((bA cZ (-1) u0.aG.e1).getD ([]:List Int)))])]} [.pf ⟨(0:Int)<=1/\(1:Int)<(2:Nat),(by decide)⟩, .pf ⟨kR [some .i64] 1 1 u0.aG.e1.length (yJ (aH .i64) u0.aG.e1) (yM (wC 1 (aH .i64)) u0.aG.e1) [.int .i64 (-1)] [.d nS] (bA cZ (-1) u0.aG.e1).isSome [.d (aZ none 1 (aH .i64) ((bA cZ (-1) u0.aG.e1).getD ([]:List Int)))],Bt (fun _=>rfl) (fun _ _=>rfl) u0.aG.e1 (-1) ([]:List Int) rfl (N7.slice _ _ _) rfl⟩]<| .im (.ad 3 85 48 1 (aj (wC 2 Part.cell) ([]:List (List Part))))<| .lp (σ:=((List (List Part)) × Int)) (β:=(List (List Part))) (([]:List (List Part)),0) [] [(85,53)] ⟨[0,12,13],[0,1,2,3],fun(u3,u5)=>[(3,vO 53 false u3.length),(14,vI u5)],fun(u3,u5)=>[(53,some (Ii u3))]⟩ ⟨[],[0,1,2,3],fun u6=>[(3,vO 53 false u6.length)],fun u6=>[(53,some (Ii u6))]⟩
  (fun(u3,u5)=> .r<| .it (.a1 ((0:Int)<=u5/\u5<(((bA cZ (-1) u0.aG.e1).getD ([]:List Int)).length:Int))<| .r<| .r<| .im (.ad 6 82 84 2 (aj Part.cell ([]:List Part)))<| .lp (σ:=(Int × (List Part))) (β:=(List Part)) (at' ((bA cZ (-1) u0.aG.e1).getD ([]:List Int)) u5.toNat,([]:List Part)) [] [(82,75)] ⟨[0,3,12,13,14],[0,1,2,3,53],fun(u1,u4)=>[(5,vI u1),(6,vO 75 false u4.length)],fun(u1,u4)=>[(75,some (aW 84 2 Part.cell u4))]⟩ ⟨[0,3,12,13,14],[0,1,2,3,53],fun u2=>[(6,vO 75 false u2.length)],fun u2=>[(75,some (aW 84 2 Part.cell u2))]⟩
  (fun(u1,u4)=> .r<| .it (.a4 (2≠(0:Int)) ((0:Int)<=(IntKind.wrap .i64 (Int.tdiv u1 2))/\(IntKind.wrap .i64 (Int.tdiv u1 2))<(u0.bh.length:Int)) ((u4.length+[Iq u0 u1].length)*16<=140737488355328) (u4.length+[Iq u0 u1].length<=4611686018427387904)<| .rg {an:=[(9, .arr [Iq u0 u1].length (Zj u0 u1)),(10, .arr (SF u0 u1 u4).length (aj Part.cell (SF u0 u1 u4)))],fr:=[(9,80),(10,81)]} [0,1, .t 1 (IntKind.wrap .i64 (Int.tdiv u1 2)) u0.bh.length, .pf ⟨[Iq u0 u1].length=1,rfl⟩, .pf ⟨aF 1 2 (lS 2 [.int .i64 ((Iq u0 u1).kind),.int .i64 ((Iq u0 u1).index)]) (Zj u0 u1),(by intro i hi j hj;match i,j,hi,hj with|0,0,_,_=>rfl|0,1,_,_=>rfl)⟩, .e (u4.length),2,3, .pf ⟨(SF u0 u1 u4).length=u4.length+[Iq u0 u1].length,cd⟩, .pf ⟨aF (u4.length+[Iq u0 u1].length) 2 (nY (aj Part.cell u4) u4.length (Zj u0 u1)) (aj Part.cell (SF u0 u1 u4)),bD _ _ _ _⟩]<| .a1 ((0:Int)<=0/\0<((Yj u0 u1).length:Int))<| .rg {an:=[(7, .look (bA cZ (k11 u1) u0.aG.e1).isSome (abG u0 u1))]} [.pf ⟨(0:Int)<=1/\(1:Int)<(2:Nat),(by decide)⟩, .pf ⟨kR [some .i64] 1 1 u0.aG.e1.length (yJ (aH .i64) u0.aG.e1) (yM (wC 1 (aH .i64)) u0.aG.e1) [.int .i64 (k11 u1)] [.d nS] (bA cZ (k11 u1) u0.aG.e1).isSome (abG u0 u1),Bt (fun _=>rfl) (fun _ _=>rfl) u0.aG.e1 (k11 u1) ([]:List Int) rfl (N7.slice _ _ _) rfl⟩,0]<| .en (.next (at' (Yj u0 u1) 0,SF u0 u1 u4)) [] [(81,75)])
  (.e (.done (.brk u4))))
  (fun u2=> .fz [75]<| .a2 ((u3.length+[u2].length)*24<=140737488355328) (u3.length+[u2].length<=4611686018427387904)<| .rg {an:=[(2, .arr [u2].length (Gm u2)),(3, .arr (u3++[u2]).length (aj (wC 2 Part.cell) (u3++[u2])))],fr:=[(2,83),(3,84)]} [.pf ⟨[u2].length=1,rfl⟩, .pf ⟨aF 1 1 (lS 1 [DF u2]) (Gm u2),(by intro i hi j hj;match i,j,hi,hj with|0,0,_,_=>rfl)⟩, .e (u3.length),0,1, .pf ⟨(u3++[u2]).length=u3.length+[u2].length,cd⟩, .pf ⟨aF (u3.length+[u2].length) 1 (nY (aj (wC 2 Part.cell) u3) u3.length (Gm u2)) (aj (wC 2 Part.cell) (u3++[u2])),bD _ _ _ _⟩]<| .r<| .en (.next (u3++[u2],k11 u5)) [] [(84,53)]))
  (.e (.done (.brk u3))))
  (fun u6=> .rg {fz:=[53]} []<| .e u6))
theorem x9 (p:ah) (s_:State) (u2:Int):dN Tryz.prog 30 (CJ p s_ u2) [] (fun r=>(.fF [sD (aZ none 1 (wC 2 Part.cell) r.1),sI r.2])) (fun _=>[]) (jv p s_ u2):=
  eF tT mX Tryz.func30 (
  .rg {fr:=[(0,6),(1,7)],fz:=[6,7]} []<| .cl 3 (mO p s_ u2) fun r_=> .r<| .r<| .it (.r<| .e (([]:List (List Part)),r_))
  (.cl 3 (mr [(0,8),(1,9),(2,10),(3,11)] (yH p s_ u2)) fun u3=> .r<| .r<| .lp (σ:=((List (Int × (List Int))) × (List (Int × (List Int))) × Int)) (β:=((List (Int × (List Int))) × (List (Int × (List Int))))) (u3.aG.e0,u3.aG.e1,0) [] [] ⟨[9],[8,9],fun(g1,g2,u4)=>[(21,vI u4)],fun(g1,g2,u4)=>[(10,some (.gm 3 36 3 g1 none)),(11,some (.gm 3 36 3 g2 none))]⟩ ⟨[9],[8,9],fun(u0,u1)=>[],fun(u0,u1)=>[(10,some (.gm 3 36 3 u0 none)),(11,some (.gm 3 36 3 u1 none))]⟩
  (fun(g1,g2,u4)=> .r<| .it (.cl 1 (mr [(0,8),(1,9),(2,10),(3,11)] (vK (Tn u3 g1 g2))) fun u5=> .r<| .it (.e (.done (.brk (u5.2.aG.e0,u5.2.aG.e1))))
  (.r<| .e (.next (u5.2.aG.e0,u5.2.aG.e1,k11 u4))))
  (.e (.done (.brk (g1,g2)))))
  (fun(u0,u1)=> .im (.gz 10 3 36 3 u0)<| .im (.gz 11 3 36 3 u1)<| .cr 1 (mr [(0,8),(1,9),(2,10),(3,11)] (yF (Tn u3 u0 u1))) fun u6=> .r<| .e (u6,0))))
theorem nT (p:ah) (s_:State) (u0:Int):dN Tryz.prog 28 (CJ p s_ u0) [] (fun r=>(.fF [sI r.1,sI r.2])) (fun _=>[]) (dZ p s_ u0):=
  eF tT mX Tryz.func28 (
  .rg {fr:=[(0,2),(1,3)],fz:=[2,3]} []<| .cl 3 (x9 p s_ u0) fun r_=> .r<| .r<| .e ((r_.1.length:Int),r_.2))
theorem BS (p:ah) (s_:State):dN Tryz.prog 14 (k22 s_ p) [] (fun r=>(.fF [sD (aZ none 1 af r.1),sI r.2])) (fun _=>[]) (eZ p s_):=
  eF tT mX Tryz.func14 (
  .rg {fr:=[(0,7),(1,8)],fz:=[7,8]} []<| .cl 2 (eT p s_) fun r_=> .r<| .r<| .it (.r<| .e (([]:List Bool),r_))
  (.a3 ((0:Int)<=p.ap) (k84 p) (k85 p)<| .rg {an:=[(2, .arr (LV p).length (Xb p))],fr:=[(2,9)]} [0, .e ((p.ap:Int)),1,2, .pf ⟨(LV p).length=p.ap.toNat,dC⟩, .pf ⟨aF p.ap.toNat 1 (fun _ j=>[.bool false].getD j .nilp) (Xb p),j6 _ _ _ _ _ (fun j hj=>(match j,hj with|0,_=>rfl))⟩]<| .cl 2 (oP p s_) fun u1=> .r<| .lp (σ:=((List Bool) × Int)) (β:=(List Bool)) (LV p,0) [] [] ⟨[23,24],[],fun(u4,u0)=>[(7,vO 9 true u4.length),(25,vI u0)],fun(u4,u0)=>[(9,some (aW 4 1 af u4))]⟩ ⟨[],[],fun u5=>[(7,vO 9 true u5.length)],fun u5=>[(9,some (aW 4 1 af u5))]⟩
  (fun(u4,u0)=> .r<| .it (.a1 ((0:Int)<=u0/\u0<(u1.length:Int))<| .rg {fr:=[(2,13)]} []<| .rg {fz:=[13]} []<| .lp (σ:=((List Bool) × Int)) (β:=(List Bool)) (u4,0) [] [] ⟨[9,23,24,25,30,31],[],fun(u2,u3)=>[(7,vO 9 true u2.length),(32,vI u3)],fun(u2,u3)=>[(9,some (aW 4 1 af u2))]⟩ ⟨[23,24,25],[],fun u6=>[(7,vO 9 true u6.length)],fun u6=>[(9,some (aW 4 1 af u6))]⟩
  (fun(u2,u3)=> .r<| .it (.a1 ((0:Int)<=u3/\u3<(((at' u1 u0.toNat).ap).length:Int))<| .r<| .a1 (k88 u1 u0 u3 u2)<| .rg {an:=[(7, .arr 0 (k90 u1 u0 u3 u2))]} [0, .t 0 (Zq u1 u0 u3) u2.length, .pf ⟨aF u2.length 1 (k92 u1 u0 u3 u2) (k90 u1 u0 u3 u2),dB _ _ _ _ _ _ _ _ rfl (fun j hj=>(match j,hj with|0,_=>rfl))⟩]<| .im (.ll 9 u2 (k91 u1 u0 u3 u2))<| .r<| .e (.next (k93 u1 u0 u3 u2)))
  (.e (.done (.brk u2))))
  (fun u6=> .r<| .e (.next (ZG u0 u6))))
  (.e (.done (.brk u4))))
  (fun u5=> .rg {fz:=[9]} []<| .e (u5,0))))
section
variable (p:ah) (u0:Int) (r_:(List Bool) × Int) (u1:List aQ)
abbrev abA:=(bif (decide (0<=(Iy p u0)))then(at' r_.1 ((Iy p u0).toNat))else false)
abbrev abm:=(bif (decide (0<=(JK p u0)))then(at' r_.1 ((JK p u0).toNat))else false)
abbrev Ox:=(⟨abA p u0 r_,abm p u0 r_⟩:aQ)
abbrev abJ:=(u1.length+[Ox p u0 r_].length)
abbrev Y7:=(aj aQ.cell [Ox p u0 r_])
abbrev Wv:=(u1++[Ox p u0 r_])
abbrev aaj:=(aj aQ.cell (Wv p u0 r_ u1))
end
theorem GU (p:ah) (s_:State):dN Tryz.prog 43 (k22 s_ p) [] (fun r=>(.fF [sD (aZ none 2 aQ.cell r.1),sI r.2])) (fun _=>[]) (uY p s_):=
  eF tT mX Tryz.func43 (
  .rg {fr:=[(0,18),(1,19)],fz:=[19]} []<| .cl 2 (BS p s_) fun r_=> .r<| .r<| .it (.r<| .e (([]:List aQ),r_.2))
  (.r<| .r<| .im (.ad 8 36 95 2 (aj aQ.cell ([]:List aQ)))<| .lp (σ:=((List aQ) × Int)) (β:=(List aQ)) (([]:List aQ),0) [] [(36,23)] ⟨[6,24,25],[],fun(u1,u0)=>[(8,vO 23 false u1.length),(26,vI u0)],fun(u1,u0)=>[(23,some (aW 95 2 aQ.cell u1))]⟩ ⟨[],[],fun u2=>[(8,vO 23 false u2.length)],fun u2=>[(23,some (aW 95 2 aQ.cell u2))]⟩
  (fun(u1,u0)=> .r<| .it (.a1 (Qe p u0)<| .rg {fr:=[(2,32)],fz:=[32]} []<| .rg {fr:=[(0,33)]} []<| .r<| .ul 11<| .r<| .t<| .rg {an:=[(1, .vals [.int .i64 (Iy p u0)])]} [.pf ⟨(0:Int)<=0/\(0:Int)<(2:Nat),(by decide)⟩, .pf ⟨0*1+1<=(Qy p u0).length,cm rfl⟩, .pf ⟨((Qy p u0).drop (0*1)).take 1=[.int .i64 (Iy p u0)].map .d,rfl⟩]<| .a1 ((gB [(decide (0<=(Iy p u0)),true)]=true->(0:Int)<=(rP p u0).e0/\(rP p u0).e0<(r_.1.length:Int)))<| .rg {} [0, .pf ⟨(0:Int)<=0/\(0:Int)<(2:Nat),(by decide)⟩]<| .r<| .im (.dp [6,8,11,24,25,26,31,32])<| .r<| .t<| .rg {an:=[(1, .vals [.int .i64 (JK p u0)])]} [.pf ⟨(0:Int)<=1/\(1:Int)<(2:Nat),(by decide)⟩, .pf ⟨1*1+1<=(Qy p u0).length,cm rfl⟩, .pf ⟨((Qy p u0).drop (1*1)).take 1=[.int .i64 (JK p u0)].map .d,rfl⟩]<| .a1 ((gB [(decide (0<=(JK p u0)),true)]=true->(0:Int)<=(rP p u0).e1/\(rP p u0).e1<(r_.1.length:Int)))<| .rg {} [0, .pf ⟨(0:Int)<=1/\(1:Int)<(2:Nat),(by decide)⟩]<| .r<| .im (.dp [6,8,11,24,25,26,31,32])<| .r<| .f<| .a2 ((abJ p u0 r_ u1)*2<=140737488355328) (u1.length+[Ox p u0 r_].length<=4611686018427387904)<| .rg {an:=[(2, .arr [Ox p u0 r_].length (Y7 p u0 r_)),(3, .arr (Wv p u0 r_ u1).length (aaj p u0 r_ u1))],fr:=[(2,34),(3,35)]} [.pf ⟨[Ox p u0 r_].length=1,rfl⟩, .pf ⟨aF 1 2 (lS 2 [.bool (abA p u0 r_),.bool (abm p u0 r_)]) (Y7 p u0 r_),(by intro i hi j hj;match i,j,hi,hj with|0,0,_,_=>rfl|0,1,_,_=>rfl)⟩, .e (u1.length),0,1, .pf ⟨(Wv p u0 r_ u1).length=u1.length+[Ox p u0 r_].length,cd⟩, .pf ⟨aF (abJ p u0 r_ u1) 2 (nY (aj aQ.cell u1) u1.length (Y7 p u0 r_)) (aaj p u0 r_ u1),bD _ _ _ _⟩]<| .r<| .en (.next (Wv p u0 r_ u1,k11 u0)) [] [(35,23)])
  (.e (.done (.brk u1))))
  (fun u2=> .rg {fz:=[23]} []<| .e (u2,0))))
theorem y7 (p:ah) (s_:State) (u0:Int):dN Tryz.prog 60 (CJ p s_ u0) [] (fun r=>(vB r)) (fun _=>[]) (pu p s_ u0):=
  eF tT mX Tryz.func60 (
  .rg {fr:=[(0,2),(1,3)],fz:=[2,3]} []<| .cl 2 (GU p s_) fun r_=> .r<| .a2 ((0:Int)<=u0/\u0<(r_.1.length:Int)) ((gB [((at' r_.1 u0.toNat).e0,false)]=true->(0:Int)<=u0/\u0<(r_.1.length:Int)))<| .rg {} [0, .pf ⟨(0:Int)<=0/\(0:Int)<(2:Nat),(by decide)⟩,1, .pf ⟨(0:Int)<=1/\(1:Int)<(2:Nat),(by decide)⟩]<| .e (bif (at' r_.1 u0.toNat).e0 then true else(at' r_.1 u0.toNat).e1))
theorem Dc (s_:State) (x:Part):dN Tryz.prog 133 [.agg (k23 s_),.agg (RU x)] [] (fun r=>(vB r)) (fun _=>[]) (mU s_ x):=
  eF tT mX Tryz.func133 (
  .rg {fr:=[(0,3),(1,4)],fz:=[3,4]} []<| .a2 ((0:Int)<=x.kind/\x.kind<([([]:List Bool),s_.al,s_.ag,s_.am].length:Int)) ((0:Int)<=x.index/\x.index<((at' [([]:List Bool),s_.al,s_.ag,s_.am] x.kind.toNat).length:Int))<| .rg {an:=[(6, .arrL [([]:List Bool),s_.al,s_.ag,s_.am].length (aj (wC 1 af) [([]:List Bool),s_.al,s_.ag,s_.am]))],fr:=[(6,5)]} [.pf ⟨[([]:List Bool),s_.al,s_.ag,s_.am].length=4,rfl⟩, .pf ⟨SS 4 1 (lS 1 [nS,aZ none 1 af s_.al,k24 s_,aZ none 1 af s_.am]) (aj (wC 1 af) [([]:List Bool),s_.al,s_.ag,s_.am]),Uf (by intro i hi j hj;match i,j,hi,hj with|0,0,_,_=>exact eu.nil'|1,0,_,_=>exact .refl _|2,0,_,_=>exact .refl _|3,0,_,_=>exact .refl _)⟩,0, .t 0 x.kind ([([]:List Bool),s_.al,s_.ag,s_.am].length),1]<| .e (at' (at' [([]:List Bool),s_.al,s_.ag,s_.am] x.kind.toNat) x.index.toNat))
theorem uy (x:Part) (x1:List Bool) (u0:List Bool) (u1:List Bool) (u2:List Bool) (u3:List Bool) (u4:List Bool) (u5:List Bool):dN Tryz.prog 132 [.agg (RU x),sD (ZB x1 u0 u1 u2 u3 u4 u5)] [] (fun r=>(vB r)) (fun _=>[]) (lD x x1 u0 u1 u2 u3 u4 u5):=
  eF tT mX Tryz.func132 (
  .rg {fr:=[(0,1)],fz:=[1]} []<| .cl 2 (Dc (⟨x1,u0,u1,u2,u3,u4,u5⟩:State) x) fun r_=> .r<| .e r_)
section
variable (s_:List Part) (f_:List Bool) (u0:List Bool) (u1:List Bool) (u2:List Bool) (u3:List Bool) (u4:List Bool) (u5:List Bool)
abbrev abK:List SV:=[.one (.own 0 false s_.length),sD (.fn 132 1 (yD [ZB f_ u0 u1 u2 u3 u4 u5]))]
abbrev Io:List (Nat × Option Ob):=[(0,some (aW 84 2 Part.cell s_))]
end
theorem vY (s_:List Part) (f_:List Bool) (u0:List Bool) (u1:List Bool) (u2:List Bool) (u3:List Bool) (u4:List Bool) (u5:List Bool):dN Tryz.prog 131 (abK s_ f_ u0 u1 u2 u3 u4 u5) (Io s_) (fun r=>(vI r)) (fun r=>(Io s_)) (iW s_ f_ u0 u1 u2 u3 u4 u5):=
  eF tT mX Tryz.func131 (
  .r<| .r<| .lp (σ:=Int) (β:=Unit) (0) [] [] ⟨[0,1,7],[0],fun t8=>[(8,vI t8)],fun t8=>[]⟩ ⟨[],[0],fun _=>[],fun _=>[]⟩
  (fun t8=> .r<| .it (.r<| .cl 5 (uy (at' s_ t8.toNat) f_ u0 u1 u2 u3 u4 u5) fun r_=> .a1 (zF s_ t8)<| .rg {} [0, .t 0 t8 s_.length,1]<| .it (.r<| .e (.done (.ret t8)))
  (.r<| .e (.next (k11 t8))))
  (.e (.done (.brk ()))))
  (fun _=> .r<| .e (-1)))
section
variable (o_:List Part) (i:Int) (j:Int) (u0:List Part) (i1:Int)
abbrev Xe:=(aj Part.cell (o_.set i.toNat (at' o_ j.toNat)))
abbrev aaY:=(nR (aj Part.cell o_) i.toNat 0 [.int .i64 ((at' o_ j.toNat).kind),.int .i64 ((at' o_ j.toNat).index)])
abbrev H8:=(Ak u0 i1.toNat (⟨0,0⟩:Part))
abbrev VQ:=(aj Part.cell (H8 u0 i1))
abbrev O3:=((H8 u0 i1).take i1.toNat)
abbrev VA:=(aj Part.cell (O3 u0 i1))
end
theorem uU (s_:List Part) (u1:List Bool) (u2:List Bool) (u3:List Bool) (u4:List Bool) (u5:List Bool) (u6:List Bool) (u7:List Bool):dN Tryz.prog 74 (abK s_ u1 u2 u3 u4 u5 u6 u7) (Io s_) (fun r=>(vO 1 false r.length)) (fun r=>[(0,none),(1,some (aW 84 2 Part.cell r))]) (iG s_ u1 u2 u3 u4 u5 u6 u7):=
  eF tT mX Tryz.func74 (
  .r<| .cr 2 (vY s_ u1 u2 u3 u4 u5 u6 u7) fun r_=> .r<| .r<| .it (.r<| .im (.rs 4 0 7)<| .en s_ [] [(7,1)])
  (.r<| .lp (σ:=((List Part) × Int × Int)) (β:=((List Part) × Int)) (s_,r_,k11 r_) [] [] ⟨[1],[],fun(o_,i,j)=>[(0,vO 0 false o_.length),(5,vI i),(6,vI j)],fun(o_,i,j)=>(Io o_)⟩ ⟨[],[],fun(u0,i1)=>[(0,vO 0 false u0.length),(5,vI i1)],fun(u0,i1)=>(Io u0)⟩
  (fun(o_,i,j)=> .r<| .it (.a1 (zF o_ j)<| .rg {fr:=[(4,11)],fz:=[11]} [0, .t 0 j o_.length]<| .cl 2 (uy (at' o_ j.toNat) u1 u2 u3 u4 u5 u6 u7) fun u8=> .r<| .it (.a1 (zF o_ i)<| .rg {an:=[(4, .arr 0 (Xe o_ i j))]} [0, .t 0 i o_.length, .pf ⟨aF o_.length 2 (aaY o_ i j) (Xe o_ i j),dB _ _ _ _ _ _ _ _ rfl (fun j hj=>(match j,hj with|0,_=>rfl|1,_=>rfl))⟩]<| .im (.ll 0 o_ (o_.set i.toNat (at' o_ j.toNat)))<| .r<| .r<| .e (.next (o_.set i.toNat (at' o_ j.toNat),k11 i,k11 j)))
  (.r<| .e (.next (o_,i,k11 j))))
  (.e (.done (.brk (o_,i)))))
  (fun(u0,i1)=> .a1 ((0:Int)<=i1/\i1<=(u0.length:Int))<| .rg {an:=[(2, .cells),(3, .take 0)],fr:=[(2,12)]} [.e (u0.length),0, .e ((u0.length - i1.toNat))]<| .im (.uh 0 (some (.arr 84 2 u0.length (wS (aj Part.cell u0) i1.toNat [.int .i64 0,.int .i64 0]))) (some (.arr 84 2 u0.length (VQ u0 i1))) (Pm (XZ Part.cell u0 i1.toNat (⟨0,0⟩:Part) [.int .i64 0,.int .i64 0] 2 (fun j hj=>match j,hj with|0,_=> .refl _|1,_=> .refl _))))<| .im (.ll 0 u0 (H8 u0 i1) (CR _ _ _))<| .a1 ((0:Int)<=i1/\i1<=((H8 u0 i1).length:Int))<| .rg {an:=[(2, .arr (O3 u0 i1).length (VA u0 i1))],fr:=[(2,13)]} [.e ((H8 u0 i1).length),0, .dv 0 ⟨(0:Int)<=i1/\i1<=((H8 u0 i1).length:Int),(O3 u0 i1).length=i1.toNat,fun ax=>take_len ax⟩, .pf ⟨aF i1.toNat 2 (VQ u0 i1) (VA u0 i1),Bv _ _ _ _⟩]<| .en (O3 u0 i1) [] [(13,1)])))
theorem Al (p:ah) (s_:State):dN Tryz.prog 75 (k22 s_ p) [] (fun r=>(vO 0 false r.length)) (fun r=>[(0,some (aW 84 2 Part.cell r))]) (nE p s_):=
  eF tT mX Tryz.func75 (
  .rg {fr:=[(0,4),(1,5)],fz:=[4,5]} []<| .cl 1 (mr [(0,6)] (sF p)) fun r_=> .r<| .cl 2 (mr [(0,6),(1,7)] (uU r_.1 s_.aq s_.aw s_.am s_.on_ s_.ag s_.ar s_.al)) fun u0=> .r<| .en u0 [] [(7,0)])
theorem qC (x:Part) (x1:Int) (u0:List Source) (u1:List Link) (u2:List aL) (x2:List Bool) (u3:List Bool) (u4:List Bool) (u5:List Bool) (u6:List Bool) (u7:List Bool) (u8:List Bool) (x3:Int):dN Tryz.prog 76 [.agg (RU x),sD (k2 u0 u1 u2 x1),sD (ZB x2 u3 u4 u5 u6 u7 u8),sD (Jm [.int .i64 x3] 0)] [] (fun r=>(vB r)) (fun _=>[]) (iO x x1 u0 u1 u2 x2 u3 u4 u5 u6 u7 u8 x3):=
  eF tT mX Tryz.func76 (
  .rg {fr:=[(0,2)],fz:=[2]} []<| .cl 3 (sG (⟨x1,u0,u1,u2⟩:ah) (⟨x2,u3,u4,u5,u6,u7,u8⟩:State) x) fun r_=> .rg {fr:=[(7,3)],fz:=[3]} []<| .cl 3 (y7 (⟨x1,u0,u1,u2⟩:ah) r_.1 x3) fun u9=> .r<| .e u9)
section
variable (f_:Int) (u0:List Source) (u1:List Link) (u2:List aL) (u3:List Bool) (u4:List Bool) (u5:List Bool) (u6:List Bool) (u7:List Bool) (u8:List Bool) (u9:List Bool) (v0:Int) (s_:List Part)
abbrev Z0:=(yD [k2 u0 u1 u2 f_,ZB u3 u4 u5 u6 u7 u8 u9,Jm [.int .i64 v0] 0])
abbrev aaX:List SV:=[.one (.own 0 false s_.length),sD (.fn 76 3 (Z0 f_ u0 u1 u2 u3 u4 u5 u6 u7 u8 u9 v0))]
end
theorem sK (s_:List Part) (f_:Int) (u0:List Source) (u1:List Link) (u2:List aL) (u3:List Bool) (u4:List Bool) (u5:List Bool) (u6:List Bool) (u7:List Bool) (u8:List Bool) (u9:List Bool) (v0:Int):dN Tryz.prog 131 (aaX f_ u0 u1 u2 u3 u4 u5 u6 u7 u8 u9 v0 s_) (Io s_) (fun r=>(vI r)) (fun r=>(Io s_)) (gN s_ f_ u0 u1 u2 u3 u4 u5 u6 u7 u8 u9 v0):=
  eF tT mX Tryz.func131 (
  .r<| .r<| .lp (σ:=Int) (β:=Unit) (0) [] [] ⟨[0,1,7],[0],fun t8=>[(8,vI t8)],fun t8=>[]⟩ ⟨[],[0],fun _=>[],fun _=>[]⟩
  (fun t8=> .r<| .it (.r<| .cl 5 (qC (at' s_ t8.toNat) f_ u0 u1 u2 u3 u4 u5 u6 u7 u8 u9 v0) fun r_=> .a1 (zF s_ t8)<| .rg {} [0, .t 0 t8 s_.length,1]<| .it (.r<| .e (.done (.ret t8)))
  (.r<| .e (.next (k11 t8))))
  (.e (.done (.brk ()))))
  (fun _=> .r<| .e (-1)))
theorem tZ (a:List Part) (b:List Part):dN Tryz.prog 34 [sD (DF a),sD (DF b)] [] (fun r=>(vB r)) (fun _=>[]) (kZ a b):=
  eF tT mX Tryz.func34 (
  .r<| .r<| .it (.r<| .e false)
  (.r<| .lp (σ:=Int) (β:=Unit) (0) [] [] ⟨[0,1],[],fun i=>[(5,vI i)],fun i=>[]⟩ ⟨[],[],fun _=>[],fun _=>[]⟩
  (fun i=> .r<| .it (.a2 (zF a i) (zF b i)<| .rg {} [0,1]<| .it (.r<| .e (.done (.ret false)))
  (.r<| .e (.next (k11 i))))
  (.e (.done (.brk ()))))
  (fun _=> .r<| .e true)))
theorem mJ (a:Int) (b:Int):dN Tryz.prog 90 [sI a,sI b] [] (fun r=>(.v (.agg [cI r.a,cI r.b,cI r.kind,cI r.most,cI r.ohm,.d (aZ none 2 kJ.cell r.trip)]))) (fun _=>[]) (l8 a b):=
  eF tT mX Tryz.func90 (
  .rg {fr:=[(0,1)]} []<| .r<| .en (⟨a,b,3,500,10,([]:List kJ)⟩:Link) [1] [])
theorem bR (a:List Bool) (b:List Bool):dN Tryz.prog 47 [sD (aZ none 1 af a),sD (aZ none 1 af b)] [] (fun r=>(vB r)) (fun _=>[]) (bN a b):=
  eF tT mX Tryz.func47 (
  .r<| .r<| .it (.r<| .e false)
  (.r<| .lp (σ:=Int) (β:=Unit) (0) [] [] ⟨[0,1],[],fun i=>[(5,vI i)],fun i=>[]⟩ ⟨[],[],fun _=>[],fun _=>[]⟩
  (fun i=> .r<| .it (.a2 (YL a i) (YL b i)<| .rg {} [0,1]<| .it (.r<| .e (.done (.ret false)))
  (.r<| .e (.next (k11 i))))
  (.e (.done (.brk ()))))
  (fun _=> .r<| .e true)))
abbrev WK:List DV:=[.bool true,.bool true,.bool false]
theorem qD (u0:Int):dN Tryz.prog 45 [sI u0] [] (fun r=>(.fF [.agg [cI r.1.ap,.own 0 true r.1.aa.length,.own 1 true r.1.ae.length,.own 2 true r.1.a_.length],.agg [.own 3 true r.2.aq.length,.own 4 true r.2.aw.length,.own 5 true r.2.am.length,.own 6 true r.2.on_.length,.own 7 true r.2.ag.length,.own 8 true r.2.ar.length,.own 9 true r.2.al.length]])) (fun r=>[(0,some (aW 125 5 Source.cell r.1.aa)),(1,some (aW 113 6 Link.cell r.1.ae)),(2,some (aW 100 4 aL.cell r.1.a_)),(3,some (aW 4 1 af r.2.aq)),(4,some (aW 4 1 af r.2.aw)),(5,some (aW 4 1 af r.2.am)),(6,some (aW 4 1 af r.2.on_)),(7,some (aW 4 1 af r.2.ag)),(8,some (aW 4 1 af r.2.ar)),(9,some (aW 4 1 af r.2.al)),(10,none),(11,none)]) (rW u0):=
  eF tT mX Tryz.func45 (
  .rg {fr:=[(0,13),(1,14)]} []<| .r<| .cl 6 (mJ 0 2) fun r_=> .cl 8 (mJ 1 3) fun u1=> .cl 10 (mJ 2 3) fun u2=> .rg {an:=[(4, .arr [(⟨0,1,500,u0,20⟩:Source),(⟨1,1,500,u0,20⟩:Source)].length (aj Source.cell [(⟨0,1,500,u0,20⟩:Source),(⟨1,1,500,u0,20⟩:Source)])),(11, .arr [r_,u1,u2].length (aj Link.cell [r_,u1,u2])),(14, .arr [(⟨(⟨2,3⟩:aB),100,2⟩:aL)].length (aj aL.cell [(⟨(⟨2,3⟩:aB),100,2⟩:aL)]))],fr:=[(4,15),(11,16),(14,17),(16,18)]} [.pf ⟨[(⟨0,1,500,u0,20⟩:Source),(⟨1,1,500,u0,20⟩:Source)].length=2,rfl⟩, .pf ⟨aF 2 5 (lS 5 [.int .i64 0,.int .i64 1,.int .i64 500,.int .i64 u0,.int .i64 20,.int .i64 1,.int .i64 1,.int .i64 500,.int .i64 u0,.int .i64 20]) (aj Source.cell [(⟨0,1,500,u0,20⟩:Source),(⟨1,1,500,u0,20⟩:Source)]),(by intro i hi j hj;match i,j,hi,hj with|0,0,_,_=>rfl|0,1,_,_=>rfl|0,2,_,_=>rfl|0,3,_,_=>rfl|0,4,_,_=>rfl|1,0,_,_=>rfl|1,1,_,_=>rfl|1,2,_,_=>rfl|1,3,_,_=>rfl|1,4,_,_=>rfl)⟩,2,1,0, .pf ⟨[r_,u1,u2].length=3,rfl⟩, .pf ⟨aF 3 6 (lS 6 [.int .i64 r_.a,.int .i64 r_.b,.int .i64 r_.kind,.int .i64 r_.most,.int .i64 r_.ohm,aZ none 2 kJ.cell r_.trip,.int .i64 u1.a,.int .i64 u1.b,.int .i64 u1.kind,.int .i64 u1.most,.int .i64 u1.ohm,aZ none 2 kJ.cell u1.trip,.int .i64 u2.a,.int .i64 u2.b,.int .i64 u2.kind,.int .i64 u2.most,.int .i64 u2.ohm,aZ none 2 kJ.cell u2.trip]) (aj Link.cell [r_,u1,u2]),(by intro i hi j hj;match i,j,hi,hj with|0,0,_,_=>rfl|0,1,_,_=>rfl|0,2,_,_=>rfl|0,3,_,_=>rfl|0,4,_,_=>rfl|0,5,_,_=>rfl|1,0,_,_=>rfl|1,1,_,_=>rfl|1,2,_,_=>rfl|1,3,_,_=>rfl|1,4,_,_=>rfl|1,5,_,_=>rfl|2,0,_,_=>rfl|2,1,_,_=>rfl|2,2,_,_=>rfl|2,3,_,_=>rfl|2,4,_,_=>rfl|2,5,_,_=>rfl)⟩, .pf ⟨[(⟨(⟨2,3⟩:aB),100,2⟩:aL)].length=1,rfl⟩, .pf ⟨aF 1 4 (lS 4 [.int .i64 2,.int .i64 3,.int .i64 100,.int .i64 2]) (aj aL.cell [(⟨(⟨2,3⟩:aB),100,2⟩:aL)]),(by intro i hi j hj;match i,j,hi,hj with|0,0,_,_=>rfl|0,1,_,_=>rfl|0,2,_,_=>rfl|0,3,_,_=>rfl)⟩]<| .as _ inferInstance [(0:Int)<=3,(1:Int)*3<=281474976710656,(3:Int)<=9223372036854775807,(0:Int)<=2,(1:Int)*2<=281474976710656,(2:Int)<=9223372036854775807,(0:Int)<=4,(1:Int)*4<=281474976710656,(4:Int)<=9223372036854775807] (fun h=> ⟨h.1,h.2.1,h.2.2.1,h.2.2.2.1,h.2.2.2.2.1,h.2.2.2.2.2.1,h.2.2.2.2.2.2.1,h.2.2.2.2.2.2.2.1,h.2.2.2.2.2.2.2.2,trivial⟩:(((0:Int)<=3)/\((1:Int)*3<=281474976710656)/\((3:Int)<=9223372036854775807)/\((0:Int)<=2)/\((1:Int)*2<=281474976710656)/\((2:Int)<=9223372036854775807)/\((0:Int)<=4)/\((1:Int)*4<=281474976710656)/\((4:Int)<=9223372036854775807))->_)<| .rg {an:=[(1, .arr [true,true,false].length (aj af [true,true,false])),(2, .arr (List.replicate 3 (false:Bool)).length (aj af (List.replicate 3 (false:Bool)))),(3, .arr (List.replicate 3 (false:Bool)).length (aj af (List.replicate 3 (false:Bool)))),(4, .arr [true,true].length (aj af [true,true])),(5, .arr (List.replicate 2 (false:Bool)).length (aj af (List.replicate 2 (false:Bool)))),(6, .arr (List.replicate 4 (false:Bool)).length (aj af (List.replicate 4 (false:Bool)))),(7, .arr (List.replicate 4 (false:Bool)).length (aj af (List.replicate 4 (false:Bool))))],fr:=[(1,19),(2,20),(3,21),(4,22),(5,23),(6,24),(7,25)]} [.pf ⟨[true,true,false].length=3,rfl⟩, .pf ⟨aF 3 1 (lS 1 WK) (aj af [true,true,false]),(by intro i hi j hj;match i,j,hi,hj with|0,0,_,_=>rfl|1,0,_,_=>rfl|2,0,_,_=>rfl)⟩,0, .e ((3:Int)),1,2, .pf ⟨(List.replicate 3 (false:Bool)).length=3,dC⟩, .pf ⟨aF 3 1 (fun _ j=>[.bool false].getD j .nilp) (aj af (List.replicate 3 (false:Bool))),j6 _ _ _ _ _ (fun j hj=>(match j,hj with|0,_=>rfl))⟩,0, .e ((3:Int)),1,2, .pf ⟨(List.replicate 3 (false:Bool)).length=3,dC⟩, .pf ⟨aF 3 1 (fun _ j=>[.bool false].getD j .nilp) (aj af (List.replicate 3 (false:Bool))),j6 _ _ _ _ _ (fun j hj=>(match j,hj with|0,_=>rfl))⟩, .pf ⟨[true,true].length=2,rfl⟩, .pf ⟨aF 2 1 (lS 1 [.bool true,.bool true]) (aj af [true,true]),(by intro i hi j hj;match i,j,hi,hj with|0,0,_,_=>rfl|1,0,_,_=>rfl)⟩,3, .e ((2:Int)),4,5, .pf ⟨(List.replicate 2 (false:Bool)).length=2,dC⟩, .pf ⟨aF 2 1 (fun _ j=>[.bool false].getD j .nilp) (aj af (List.replicate 2 (false:Bool))),j6 _ _ _ _ _ (fun j hj=>(match j,hj with|0,_=>rfl))⟩,6, .e ((4:Int)),7,8, .pf ⟨(List.replicate 4 (false:Bool)).length=4,dC⟩, .pf ⟨aF 4 1 (fun _ j=>[.bool false].getD j .nilp) (aj af (List.replicate 4 (false:Bool))),j6 _ _ _ _ _ (fun j hj=>(match j,hj with|0,_=>rfl))⟩,6, .e ((4:Int)),7,8, .pf ⟨(List.replicate 4 (false:Bool)).length=4,dC⟩, .pf ⟨aF 4 1 (fun _ j=>[.bool false].getD j .nilp) (aj af (List.replicate 4 (false:Bool))),j6 _ _ _ _ _ (fun j hj=>(match j,hj with|0,_=>rfl))⟩]<| .en ((⟨4,[(⟨0,1,500,u0,20⟩:Source),(⟨1,1,500,u0,20⟩:Source)],[r_,u1,u2],[(⟨(⟨2,3⟩:aB),100,2⟩:aL)]⟩:ah),(⟨[true,true,false],List.replicate 3 (false:Bool),List.replicate 3 (false:Bool),[true,true],List.replicate 2 (false:Bool),List.replicate 4 (false:Bool),List.replicate 4 (false:Bool)⟩:State)) [] [(15,0),(16,1),(17,2),(19,3),(20,4),(21,5),(22,6),(23,7),(24,8),(25,9),(13,10),(14,11)])
theorem uS (s_:List Part) (u1:Int) (u2:List Source) (u3:List Link) (u4:List aL) (u5:List Bool) (u6:List Bool) (u7:List Bool) (u8:List Bool) (u9:List Bool) (v0:List Bool) (v1:List Bool) (v2:Int):dN Tryz.prog 74 (aaX u1 u2 u3 u4 u5 u6 u7 u8 u9 v0 v1 v2 s_) (Io s_) (fun r=>(vO 1 false r.length)) (fun r=>[(0,none),(1,some (aW 84 2 Part.cell r))]) (iD s_ u1 u2 u3 u4 u5 u6 u7 u8 u9 v0 v1 v2):=
  eF tT mX Tryz.func74 (
  .r<| .cr 2 (sK s_ u1 u2 u3 u4 u5 u6 u7 u8 u9 v0 v1 v2) fun r_=> .r<| .r<| .it (.r<| .im (.rs 4 0 7)<| .en s_ [] [(7,1)])
  (.r<| .lp (σ:=((List Part) × Int × Int)) (β:=((List Part) × Int)) (s_,r_,k11 r_) [] [] ⟨[1],[],fun(o_,i,j)=>[(0,vO 0 false o_.length),(5,vI i),(6,vI j)],fun(o_,i,j)=>(Io o_)⟩ ⟨[],[],fun(u0,i1)=>[(0,vO 0 false u0.length),(5,vI i1)],fun(u0,i1)=>(Io u0)⟩
  (fun(o_,i,j)=> .r<| .it (.a1 (zF o_ j)<| .rg {fr:=[(4,11)],fz:=[11]} [0, .t 0 j o_.length]<| .cl 2 (qC (at' o_ j.toNat) u1 u2 u3 u4 u5 u6 u7 u8 u9 v0 v1 v2) fun v3=> .r<| .it (.a1 (zF o_ i)<| .rg {an:=[(4, .arr 0 (Xe o_ i j))]} [0, .t 0 i o_.length, .pf ⟨aF o_.length 2 (aaY o_ i j) (Xe o_ i j),dB _ _ _ _ _ _ _ _ rfl (fun j hj=>(match j,hj with|0,_=>rfl|1,_=>rfl))⟩]<| .im (.ll 0 o_ (o_.set i.toNat (at' o_ j.toNat)))<| .r<| .r<| .e (.next (o_.set i.toNat (at' o_ j.toNat),k11 i,k11 j)))
  (.r<| .e (.next (o_,i,k11 j))))
  (.e (.done (.brk (o_,i)))))
  (fun(u0,i1)=> .a1 ((0:Int)<=i1/\i1<=(u0.length:Int))<| .rg {an:=[(2, .cells),(3, .take 0)],fr:=[(2,12)]} [.e (u0.length),0, .e ((u0.length - i1.toNat))]<| .im (.uh 0 (some (.arr 84 2 u0.length (wS (aj Part.cell u0) i1.toNat [.int .i64 0,.int .i64 0]))) (some (.arr 84 2 u0.length (VQ u0 i1))) (Pm (XZ Part.cell u0 i1.toNat (⟨0,0⟩:Part) [.int .i64 0,.int .i64 0] 2 (fun j hj=>match j,hj with|0,_=> .refl _|1,_=> .refl _))))<| .im (.ll 0 u0 (H8 u0 i1) (CR _ _ _))<| .a1 ((0:Int)<=i1/\i1<=((H8 u0 i1).length:Int))<| .rg {an:=[(2, .arr (O3 u0 i1).length (VA u0 i1))],fr:=[(2,13)]} [.e ((H8 u0 i1).length),0, .dv 0 ⟨(0:Int)<=i1/\i1<=((H8 u0 i1).length:Int),(O3 u0 i1).length=i1.toNat,fun ax=>take_len ax⟩, .pf ⟨aF i1.toNat 2 (VQ u0 i1) (VA u0 i1),Bv _ _ _ _⟩]<| .en (O3 u0 i1) [] [(13,1)])))
theorem kS (p:ah) (s_:State) (u0:Int):dN Tryz.prog 32 (CJ p s_ u0) [] (fun r=>(.fF [.one (.own 0 false r.1.length),sI r.2])) (fun r=>[(0,some (aW 84 2 Part.cell r.1))]) (dJ p s_ u0):=
  eF tT mX Tryz.func32 (
  .rg {fr:=[(0,5),(1,6),(2,7)],fz:=[5,6,7]} []<| .cl 3 (mO p s_ u0) fun r_=> .r<| .r<| .it (.r<| .im (.ad 6 8 84 2 (aj Part.cell ([]:List Part)))<| .en (([]:List Part),r_) [] [(8,0)])
  (.cl 3 (y7 p s_ u0) fun u3=> .r<| .it (.r<| .im (.ad 6 9 84 2 (aj Part.cell ([]:List Part)))<| .en (([]:List Part),0) [] [(9,0)])
  (.cl 2 (mr [(0,10)] (Al p s_)) fun u1=> .cl 4 (mr [(0,10),(1,11)] (uS u1 p.ap p.aa p.ae p.a_ s_.aq s_.aw s_.am s_.on_ s_.ag s_.ar s_.al u0)) fun u2=> .r<| .en (u2,0) [] [(11,0)])))
end
end Sg
