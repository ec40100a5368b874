import Derived.Test.YtcafpngcflplgaaGreatDoorTeW0
set_option linter.all false
namespace Sg
open Go Go.Proofs
set_option maxRecDepth 20000
noncomputable section
abbrev k77:List (Nat × Option Ob):=[(21,some (cu 9 1 dh [(⟨#[]⟩:ByteArray),⟨#[112,108,97,110,116]⟩,⟨#[115,111,117,114,99,101]⟩,⟨#[108,105,110,107]⟩,⟨#[114,97,99,107]⟩]))]
theorem AX (p:ah) (v1:Int) (s_:ByteArray):gT Tryz.prog 51 [.agg [cI p.ae,.own 0 false p.aa.length,.own 1 false p.ac.length,.own 2 false p.am.length],sI v1,sD (.str s_)] [(0,some (cu 67 5 Source.cell p.aa)),(1,some (cu 73 6 Link.cell p.ac)),(2,some (cu 76 4 aF.cell p.am))] (fun r=>(.eZ [.agg [cI r.1.ae,.own 3 false r.1.aa.length,.own 4 false r.1.ac.length,.own 5 false r.1.am.length],sI r.2])) (fun r=>[(0,none),(1,none),(2,none),(3,some (cu 67 5 Source.cell r.1.aa)),(4,some (cu 73 6 Link.cell r.1.ac)),(5,some (cu 76 4 aF.cell r.1.am)),(6,none)]) (iO p v1 s_):=
  jM tT mX Tryz.func51 (
  .rg {fr:=[(0,16),(1,17)]} []<| .im (.gD 17 1 18 67 5 (ay Source.cell ([]:List Source)))<| .im (.gD 17 2 19 73 6 (ay Link.cell ([]:List Link)))<| .im (.gD 17 3 20 76 4 (ay aF.cell ([]:List aF)))<| .cl 1 (Di s_) fun r_=> .r<| .cr 4 ⟨fun{u7} hr_1=>((Fn.G6 (frz:=[21]) (p:=[[(⟨#[]⟩:ByteArray),⟨#[112,108,97,110,116]⟩,⟨#[115,111,117,114,99,101]⟩,⟨#[108,105,110,107]⟩,⟨#[114,97,99,107]⟩].length=[(⟨#[]⟩:ByteArray),⟨#[112,108,97,110,116]⟩,⟨#[115,111,117,114,99,101]⟩,⟨#[108,105,110,107]⟩,⟨#[114,97,99,107]⟩].length]) (Fn.le (args':=[sD (bQ (some true) 1 dh [(⟨#[]⟩:ByteArray),⟨#[112,108,97,110,116]⟩,⟨#[115,111,117,114,99,101]⟩,⟨#[108,105,110,107]⟩,⟨#[114,97,99,107]⟩]),sD (.str (at' r_ 0))]) (bH [(⟨#[]⟩:ByteArray),⟨#[112,108,97,110,116]⟩,⟨#[115,111,117,114,99,101]⟩,⟨#[108,105,110,107]⟩,⟨#[114,97,99,107]⟩] (at' r_ 0) hr_1) (by exact⟨A7.one (su.d o9.tN),A7.refl _,trivial⟩)) (by kernel_rfl) ⟨rfl,trivial⟩ rfl):Fn Tryz.prog 96 [.one (.own 21 true ([(⟨#[]⟩:ByteArray),⟨#[112,108,97,110,116]⟩,⟨#[115,111,117,114,99,101]⟩,⟨#[108,105,110,107]⟩,⟨#[114,97,99,107]⟩].length)),sD (.str (at' r_ 0))] k77 (vI u7) k77)⟩ fun u7=> .a1 (YP r_)<| .rg {an:=[(0, .arr [(⟨#[]⟩:ByteArray),⟨#[112,108,97,110,116]⟩,⟨#[115,111,117,114,99,101]⟩,⟨#[108,105,110,107]⟩,⟨#[114,97,99,107]⟩].length (ay dh [(⟨#[]⟩:ByteArray),⟨#[112,108,97,110,116]⟩,⟨#[115,111,117,114,99,101]⟩,⟨#[108,105,110,107]⟩,⟨#[114,97,99,107]⟩]))],fr:=[(0,21)]} [.pf ⟨[(⟨#[]⟩:ByteArray),⟨#[112,108,97,110,116]⟩,⟨#[115,111,117,114,99,101]⟩,⟨#[108,105,110,107]⟩,⟨#[114,97,99,107]⟩].length=5,rfl⟩, .pf ⟨aI 5 1 (kS 1 [.str ⟨#[]⟩,.str ⟨#[112,108,97,110,116]⟩,.str ⟨#[115,111,117,114,99,101]⟩,.str ⟨#[108,105,110,107]⟩,.str ⟨#[114,97,99,107]⟩]) (ay dh [(⟨#[]⟩:ByteArray),⟨#[112,108,97,110,116]⟩,⟨#[115,111,117,114,99,101]⟩,⟨#[108,105,110,107]⟩,⟨#[114,97,99,107]⟩]),(by intro i hi j hj;match i,j,hi,hj with|0,0,_,_=>rfl|1,0,_,_=>rfl|2,0,_,_=>rfl|3,0,_,_=>rfl|4,0,_,_=>rfl)⟩,0,1]<| .r<| .it (.r<| .im (.re 17 1 0 22)<| .im (.re 17 2 1 23)<| .im (.re 17 3 2 24)<| .en (p,0) [] [(22,3),(23,4),(24,5),(17,6)])
  (.rg {fr:=[(0,25)]} []<| .r<| .lp (σ:=(Int × Int × Int × Int × Int × Int × Int × Int)) (β:=(Int × Int × Int × Int × Int × Int × Int)) (0,0,0,0,0,0,0,1) [] [] ⟨[3,6,8,9,10],[0,1,2,16,17,18,19,20],fun(n0,u5,n2,n3,n4,n5,n6,i1)=>[(11,vI i1)],fun(n0,u5,n2,n3,n4,n5,n6,i1)=>[(25,some (.cells 174 [cI n0,cI u5,cI n2,cI n3,cI n4,cI n5,cI n6]))]⟩ ⟨[3,6,8,9,10],[0,1,2,16,17,18,19,20],fun(u9,u0,u1,u2,u3,u4,v0)=>[],fun(u9,u0,u1,u2,u3,u4,v0)=>[(25,some (.cells 174 [cI u9,cI u0,cI u1,cI u2,cI u3,cI u4,cI v0]))]⟩
  (fun(n0,u5,n2,n3,n4,n5,n6,i1)=> .r<| .it (.r<| .it (.fk (decide (i1=0)) (.si 11 i1 0 0<| .cl 1 bX fun v2=> .cl 6 (bH v2 (at' r_ 0)) fun v3=> .a1 (YP r_)<| .rg {} [2,0,1, .pf ⟨(0:Int)<=0/\(0:Int)<(7:Nat),(by decide)⟩]<| .rg {} [.pf ⟨(0:Int)<=0/\(0:Int)<(7:Nat),(by decide)⟩]<| .it (.r<| .im (.re 17 1 0 26)<| .im (.re 17 2 1 27)<| .im (.re 17 3 2 28)<| .en (.done (.ret (p,0))) [] [(26,3),(27,4),(28,5),(17,6)])
  (.r<| .e (.next (v3,u5,n2,n3,n4,n5,n6,1))))
  (.fk (decide (i1=1)) (.si 11 i1 1 0<| .cl 1 bX fun v4=> .cl 6 (bH v4 (at' r_ 1)) fun v5=> .a1 (Hr r_)<| .rg {} [2,0,1, .pf ⟨(0:Int)<=1/\(1:Int)<(7:Nat),(by decide)⟩]<| .rg {} [.pf ⟨(0:Int)<=1/\(1:Int)<(7:Nat),(by decide)⟩]<| .it (.r<| .im (.re 17 1 0 29)<| .im (.re 17 2 1 30)<| .im (.re 17 3 2 31)<| .en (.done (.ret (p,0))) [] [(29,3),(30,4),(31,5),(17,6)])
  (.r<| .e (.next (n0,v5,n2,n3,n4,n5,n6,2))))
  (.fk (decide (i1=2)) (.si 11 i1 2 0<| .cl 1 bX fun v6=> .cl 6 (bH v6 (at' r_ 2)) fun v7=> .a1 (I4 r_)<| .rg {} [2,0,1, .pf ⟨(0:Int)<=2/\(2:Int)<(7:Nat),(by decide)⟩]<| .rg {} [.pf ⟨(0:Int)<=2/\(2:Int)<(7:Nat),(by decide)⟩]<| .it (.r<| .im (.re 17 1 0 32)<| .im (.re 17 2 1 33)<| .im (.re 17 3 2 34)<| .en (.done (.ret (p,0))) [] [(32,3),(33,4),(34,5),(17,6)])
  (.r<| .e (.next (n0,u5,v7,n3,n4,n5,n6,3))))
  (.fk (decide (i1=3)) (.si 11 i1 3 0<| .cl 1 bX fun v8=> .cl 6 (bH v8 (at' r_ 3)) fun v9=> .a1 (Ir r_)<| .rg {} [2,0,1, .pf ⟨(0:Int)<=3/\(3:Int)<(7:Nat),(by decide)⟩]<| .rg {} [.pf ⟨(0:Int)<=3/\(3:Int)<(7:Nat),(by decide)⟩]<| .it (.r<| .im (.re 17 1 0 35)<| .im (.re 17 2 1 36)<| .im (.re 17 3 2 37)<| .en (.done (.ret (p,0))) [] [(35,3),(36,4),(37,5),(17,6)])
  (.r<| .e (.next (n0,u5,n2,v9,n4,n5,n6,4))))
  (.fk (decide (i1=4)) (.si 11 i1 4 0<| .cl 1 bX fun w0=> .cl 6 (bH w0 (at' r_ 4)) fun w1=> .a1 (Js r_)<| .rg {} [2,0,1, .pf ⟨(0:Int)<=4/\(4:Int)<(7:Nat),(by decide)⟩]<| .rg {} [.pf ⟨(0:Int)<=4/\(4:Int)<(7:Nat),(by decide)⟩]<| .it (.r<| .im (.re 17 1 0 38)<| .im (.re 17 2 1 39)<| .im (.re 17 3 2 40)<| .en (.done (.ret (p,0))) [] [(38,3),(39,4),(40,5),(17,6)])
  (.r<| .e (.next (n0,u5,n2,n3,w1,n5,n6,5))))
  (.fk (decide (i1=5)) (.si 11 i1 5 0<| .cl 1 bX fun w2=> .cl 6 (bH w2 (at' r_ 5)) fun w3=> .a1 (NR r_)<| .rg {} [2,0,1, .pf ⟨(0:Int)<=5/\(5:Int)<(7:Nat),(by decide)⟩]<| .rg {} [.pf ⟨(0:Int)<=5/\(5:Int)<(7:Nat),(by decide)⟩]<| .it (.r<| .im (.re 17 1 0 41)<| .im (.re 17 2 1 42)<| .im (.re 17 3 2 43)<| .en (.done (.ret (p,0))) [] [(41,3),(42,4),(43,5),(17,6)])
  (.r<| .e (.next (n0,u5,n2,n3,n4,w3,n6,6))))
  (.a1 (i1=6)<| .sj 11 i1 6 0<| .cl 1 bX fun w4=> .cl 6 (bH w4 (at' r_ 6)) fun w5=> .a1 ((0:Int)<=6/\6<(r_.length:Int))<| .rg {} [2,0,1, .pf ⟨(0:Int)<=6/\(6:Int)<(7:Nat),(by decide)⟩]<| .rg {} [.pf ⟨(0:Int)<=6/\(6:Int)<(7:Nat),(by decide)⟩]<| .it (.r<| .im (.re 17 1 0 44)<| .im (.re 17 2 1 45)<| .im (.re 17 3 2 46)<| .en (.done (.ret (p,0))) [] [(44,3),(45,4),(46,5),(17,6)])
  (.r<| .e (.next (n0,u5,n2,n3,n4,n5,w5,7))))))))))
  (.r<| .it (.fk (decide (i1=0)) (.si 11 i1 0 0<| .cl 1 dD fun w6=> .cl 6 (bH w6 (at' r_ 0)) fun w7=> .a1 (YP r_)<| .rg {} [2,0,1, .pf ⟨(0:Int)<=0/\(0:Int)<(7:Nat),(by decide)⟩]<| .rg {} [.pf ⟨(0:Int)<=0/\(0:Int)<(7:Nat),(by decide)⟩]<| .it (.r<| .im (.re 17 1 0 47)<| .im (.re 17 2 1 48)<| .im (.re 17 3 2 49)<| .en (.done (.ret (p,0))) [] [(47,3),(48,4),(49,5),(17,6)])
  (.r<| .e (.next (w7,u5,n2,n3,n4,n5,n6,1))))
  (.fk (decide (i1=1)) (.si 11 i1 1 0<| .cl 1 dD fun w8=> .cl 6 (bH w8 (at' r_ 1)) fun w9=> .a1 (Hr r_)<| .rg {} [2,0,1, .pf ⟨(0:Int)<=1/\(1:Int)<(7:Nat),(by decide)⟩]<| .rg {} [.pf ⟨(0:Int)<=1/\(1:Int)<(7:Nat),(by decide)⟩]<| .it (.r<| .im (.re 17 1 0 50)<| .im (.re 17 2 1 51)<| .im (.re 17 3 2 52)<| .en (.done (.ret (p,0))) [] [(50,3),(51,4),(52,5),(17,6)])
  (.r<| .e (.next (n0,w9,n2,n3,n4,n5,n6,2))))
  (.fk (decide (i1=2)) (.si 11 i1 2 0<| .cl 1 dD fun x0=> .cl 6 (bH x0 (at' r_ 2)) fun x1=> .a1 (I4 r_)<| .rg {} [2,0,1, .pf ⟨(0:Int)<=2/\(2:Int)<(7:Nat),(by decide)⟩]<| .rg {} [.pf ⟨(0:Int)<=2/\(2:Int)<(7:Nat),(by decide)⟩]<| .it (.r<| .im (.re 17 1 0 53)<| .im (.re 17 2 1 54)<| .im (.re 17 3 2 55)<| .en (.done (.ret (p,0))) [] [(53,3),(54,4),(55,5),(17,6)])
  (.r<| .e (.next (n0,u5,x1,n3,n4,n5,n6,3))))
  (.fk (decide (i1=3)) (.si 11 i1 3 0<| .cl 1 dD fun x2=> .cl 6 (bH x2 (at' r_ 3)) fun x3=> .a1 (Ir r_)<| .rg {} [2,0,1, .pf ⟨(0:Int)<=3/\(3:Int)<(7:Nat),(by decide)⟩]<| .rg {} [.pf ⟨(0:Int)<=3/\(3:Int)<(7:Nat),(by decide)⟩]<| .it (.r<| .im (.re 17 1 0 56)<| .im (.re 17 2 1 57)<| .im (.re 17 3 2 58)<| .en (.done (.ret (p,0))) [] [(56,3),(57,4),(58,5),(17,6)])
  (.r<| .e (.next (n0,u5,n2,x3,n4,n5,n6,4))))
  (.fk (decide (i1=4)) (.si 11 i1 4 0<| .cl 1 dD fun x4=> .cl 6 (bH x4 (at' r_ 4)) fun x5=> .a1 (Js r_)<| .rg {} [2,0,1, .pf ⟨(0:Int)<=4/\(4:Int)<(7:Nat),(by decide)⟩]<| .rg {} [.pf ⟨(0:Int)<=4/\(4:Int)<(7:Nat),(by decide)⟩]<| .it (.r<| .im (.re 17 1 0 59)<| .im (.re 17 2 1 60)<| .im (.re 17 3 2 61)<| .en (.done (.ret (p,0))) [] [(59,3),(60,4),(61,5),(17,6)])
  (.r<| .e (.next (n0,u5,n2,n3,x5,n5,n6,5))))
  (.fk (decide (i1=5)) (.si 11 i1 5 0<| .cl 1 dD fun x6=> .cl 6 (bH x6 (at' r_ 5)) fun x7=> .a1 (NR r_)<| .rg {} [2,0,1, .pf ⟨(0:Int)<=5/\(5:Int)<(7:Nat),(by decide)⟩]<| .rg {} [.pf ⟨(0:Int)<=5/\(5:Int)<(7:Nat),(by decide)⟩]<| .it (.r<| .im (.re 17 1 0 62)<| .im (.re 17 2 1 63)<| .im (.re 17 3 2 64)<| .en (.done (.ret (p,0))) [] [(62,3),(63,4),(64,5),(17,6)])
  (.r<| .e (.next (n0,u5,n2,n3,n4,x7,n6,6))))
  (.a1 (i1=6)<| .sj 11 i1 6 0<| .cl 1 dD fun x8=> .cl 6 (bH x8 (at' r_ 6)) fun x9=> .a1 ((0:Int)<=6/\6<(r_.length:Int))<| .rg {} [2,0,1, .pf ⟨(0:Int)<=6/\(6:Int)<(7:Nat),(by decide)⟩]<| .rg {} [.pf ⟨(0:Int)<=6/\(6:Int)<(7:Nat),(by decide)⟩]<| .it (.r<| .im (.re 17 1 0 65)<| .im (.re 17 2 1 66)<| .im (.re 17 3 2 67)<| .en (.done (.ret (p,0))) [] [(65,3),(66,4),(67,5),(17,6)])
  (.r<| .e (.next (n0,u5,n2,n3,n4,n5,x9,7))))))))))
  (.cl 4 (nI (at' r_ i1.toNat)) fun u8=> .a1 (Yj i1 r_)<| .rg {} [0,1]<| .r<| .it (.r<| .im (.re 17 1 0 68)<| .im (.re 17 2 1 69)<| .im (.re 17 3 2 70)<| .en (.done (.ret (p,0))) [] [(68,3),(69,4),(70,5),(17,6)])
  (.fk (decide (i1=0)) (.si 11 i1 0 0<| .rg {} [.pf ⟨(0:Int)<=0/\(0:Int)<(7:Nat),(by decide)⟩]<| .r<| .e (.next (u8.1,u5,n2,n3,n4,n5,n6,1)))
  (.fk (decide (i1=1)) (.si 11 i1 1 0<| .rg {} [.pf ⟨(0:Int)<=1/\(1:Int)<(7:Nat),(by decide)⟩]<| .r<| .e (.next (n0,u8.1,n2,n3,n4,n5,n6,2)))
  (.fk (decide (i1=2)) (.si 11 i1 2 0<| .rg {} [.pf ⟨(0:Int)<=2/\(2:Int)<(7:Nat),(by decide)⟩]<| .r<| .e (.next (n0,u5,u8.1,n3,n4,n5,n6,3)))
  (.fk (decide (i1=3)) (.si 11 i1 3 0<| .rg {} [.pf ⟨(0:Int)<=3/\(3:Int)<(7:Nat),(by decide)⟩]<| .r<| .e (.next (n0,u5,n2,u8.1,n4,n5,n6,4)))
  (.fk (decide (i1=4)) (.si 11 i1 4 0<| .rg {} [.pf ⟨(0:Int)<=4/\(4:Int)<(7:Nat),(by decide)⟩]<| .r<| .e (.next (n0,u5,n2,n3,u8.1,n5,n6,5)))
  (.fk (decide (i1=5)) (.si 11 i1 5 0<| .rg {} [.pf ⟨(0:Int)<=5/\(5:Int)<(7:Nat),(by decide)⟩]<| .r<| .e (.next (n0,u5,n2,n3,n4,u8.1,n6,6)))
  (.a1 (i1=6)<| .sj 11 i1 6 0<| .rg {} [.pf ⟨(0:Int)<=6/\(6:Int)<(7:Nat),(by decide)⟩]<| .r<| .e (.next (n0,u5,n2,n3,n4,n5,u8.1,7))))))))))))
  (.e (.done (.brk (n0,u5,n2,n3,n4,n5,n6)))))
  (fun(u9,u0,u1,u2,u3,u4,v0)=> .r<| .r<| .it (.r<| .it (.r<| .im (.re 17 1 0 71)<| .im (.re 17 2 1 72)<| .im (.re 17 3 2 73)<| .en (p,0) [] [(71,3),(72,4),(73,5),(17,6)])
  (.rg {} [.pf ⟨(0:Int)<=1/\(1:Int)<(7:Nat),(by decide)⟩]<| .r<| .im (.re 17 1 0 74)<| .im (.re 17 2 1 75)<| .im (.re 17 3 2 76)<| .en ((⟨u0,p.aa,p.ac,p.am⟩:ah),u7) [] [(74,3),(75,4),(76,5),(17,6)]))
  (.rg {fz:=[25]} []<| .it (.r<| .it (.r<| .im (.re 17 1 0 77)<| .im (.re 17 2 1 78)<| .im (.re 17 3 2 79)<| .en (p,0) [] [(77,3),(78,4),(79,5),(17,6)])
  (.a2 ((Zm p u0 u1 u2 u3 u4)*40<=140737488355328) (p.aa.length+[(⟨u0,u1,u2,u3,u4⟩:Source)].length<=4611686018427387904)<| .rg {an:=[(13, .arr [(⟨u0,u1,u2,u3,u4⟩:Source)].length (Yx u0 u1 u2 u3 u4)),(14, .arr (Xt p u0 u1 u2 u3 u4).length (k62 p u0 u1 u2 u3 u4))],fr:=[(13,80),(14,81)]} [.pf ⟨(0:Int)<=1/\(1:Int)<(7:Nat),(by decide)⟩, .pf ⟨(0:Int)<=2/\(2:Int)<(7:Nat),(by decide)⟩, .pf ⟨(0:Int)<=3/\(3:Int)<(7:Nat),(by decide)⟩, .pf ⟨(0:Int)<=4/\(4:Int)<(7:Nat),(by decide)⟩, .pf ⟨(0:Int)<=5/\(5:Int)<(7:Nat),(by decide)⟩, .pf ⟨[(⟨u0,u1,u2,u3,u4⟩:Source)].length=1,rfl⟩, .pf ⟨aI 1 5 (kS 5 [.int .i64 u0,.int .i64 u1,.int .i64 u2,.int .i64 u3,.int .i64 u4]) (Yx u0 u1 u2 u3 u4),(by intro i hi j hj;match i,j,hi,hj with|0,0,_,_=>rfl|0,1,_,_=>rfl|0,2,_,_=>rfl|0,3,_,_=>rfl|0,4,_,_=>rfl)⟩, .e (p.aa.length),0,1, .pf ⟨(Xt p u0 u1 u2 u3 u4).length=p.aa.length+[(⟨u0,u1,u2,u3,u4⟩:Source)].length,cd⟩, .pf ⟨aI (Zm p u0 u1 u2 u3 u4) 5 (nM (ay Source.cell p.aa) p.aa.length (Yx u0 u1 u2 u3 u4)) (k62 p u0 u1 u2 u3 u4),bS _ _ _ _⟩]<| .r<| .im (.re 17 2 1 82)<| .im (.re 17 3 2 83)<| .en ((⟨p.ae,Xt p u0 u1 u2 u3 u4,p.ac,p.am⟩:ah),u7) [] [(81,3),(82,4),(83,5),(17,6)]))
  (.r<| .it (.r<| .it (.r<| .im (.re 17 1 0 84)<| .im (.re 17 2 1 85)<| .im (.re 17 3 2 86)<| .en (p,0) [] [(84,3),(85,4),(86,5),(17,6)])
  (.cl 2 ⟨fun{u6} hr_35=>((Fn.leH (args:=[sD (bQ none 1 dh (r_.drop 6))]) (args':=[sD (.sl none 1 (r_.length - 6) (fun iq jq=>ay dh r_ (iq+6) jq))]) (hin:=[]) (hin':=[]) (Dg (r_.drop 6) hr_35) ⟨A7.one (su.d (o9.slN (by first|rw [cd,ea]|simp only [cJ,ea,Cx]|exact dC) (.inr rfl) (Nb _ _ _ _))),trivial⟩ trivial):Fn Tryz.prog 98 [sD (.sl none 1 (r_.length - 6) (fun iq jq=>ay dh r_ (iq+6) jq))] [] (.eZ [sD (bQ none 2 aQ.cell u6.1),sB u6.2]) [])⟩ fun u6=> .a1 ((0:Int)<=(6:Int)/\(6:Int)<=(r_.length:Int))<| .rg {} [0,1]<| .r<| .it (.r<| .im (.re 17 1 0 87)<| .im (.re 17 2 1 88)<| .im (.re 17 3 2 89)<| .en (p,0) [] [(87,3),(88,4),(89,5),(17,6)])
  (.a2 ((p.ac.length+[(⟨u0,u1,u2,u3,u4,u6.1⟩:Link)].length)*64<=140737488355328) (p.ac.length+[(⟨u0,u1,u2,u3,u4,u6.1⟩:Link)].length<=4611686018427387904)<| .rg {an:=[(14, .arr [(⟨u0,u1,u2,u3,u4,u6.1⟩:Link)].length (ay Link.cell [(⟨u0,u1,u2,u3,u4,u6.1⟩:Link)])),(15, .arr (p.ac++[(⟨u0,u1,u2,u3,u4,u6.1⟩:Link)]).length (ay Link.cell (p.ac++[(⟨u0,u1,u2,u3,u4,u6.1⟩:Link)])))],fr:=[(14,90),(15,91)]} [.pf ⟨(0:Int)<=1/\(1:Int)<(7:Nat),(by decide)⟩, .pf ⟨(0:Int)<=2/\(2:Int)<(7:Nat),(by decide)⟩, .pf ⟨(0:Int)<=3/\(3:Int)<(7:Nat),(by decide)⟩, .pf ⟨(0:Int)<=4/\(4:Int)<(7:Nat),(by decide)⟩, .pf ⟨(0:Int)<=5/\(5:Int)<(7:Nat),(by decide)⟩, .pf ⟨[(⟨u0,u1,u2,u3,u4,u6.1⟩:Link)].length=1,rfl⟩, .pf ⟨aI 1 6 (kS 6 [.int .i64 u0,.int .i64 u1,.int .i64 u2,.int .i64 u3,.int .i64 u4,bQ none 2 aQ.cell u6.1]) (ay Link.cell [(⟨u0,u1,u2,u3,u4,u6.1⟩:Link)]),(by intro i hi j hj;match i,j,hi,hj with|0,0,_,_=>rfl|0,1,_,_=>rfl|0,2,_,_=>rfl|0,3,_,_=>rfl|0,4,_,_=>rfl|0,5,_,_=>rfl)⟩, .e (p.ac.length),0,1, .pf ⟨(p.ac++[(⟨u0,u1,u2,u3,u4,u6.1⟩:Link)]).length=p.ac.length+[(⟨u0,u1,u2,u3,u4,u6.1⟩:Link)].length,cd⟩, .pf ⟨aI (p.ac.length+[(⟨u0,u1,u2,u3,u4,u6.1⟩:Link)].length) 6 (nM (ay Link.cell p.ac) p.ac.length (ay Link.cell [(⟨u0,u1,u2,u3,u4,u6.1⟩:Link)])) (ay Link.cell (p.ac++[(⟨u0,u1,u2,u3,u4,u6.1⟩:Link)])),bS _ _ _ _⟩]<| .r<| .im (.re 17 1 0 92)<| .im (.re 17 3 2 93)<| .en ((⟨p.ae,p.aa,p.ac++[(⟨u0,u1,u2,u3,u4,u6.1⟩:Link)],p.am⟩:ah),u7) [] [(92,3),(91,4),(93,5),(17,6)])))
  (.r<| .it (.r<| .it (.r<| .im (.re 17 1 0 94)<| .im (.re 17 2 1 95)<| .im (.re 17 3 2 96)<| .en (p,0) [] [(94,3),(95,4),(96,5),(17,6)])
  (.a2 ((p.am.length+[Pg u0 u1 u2 u3].length)*32<=140737488355328) (p.am.length+[Pg u0 u1 u2 u3].length<=4611686018427387904)<| .rg {an:=[(12, .arr [Pg u0 u1 u2 u3].length (YB u0 u1 u2 u3)),(13, .arr (XB p u0 u1 u2 u3).length (k67 p u0 u1 u2 u3))],fr:=[(12,97),(13,98)]} [.pf ⟨(0:Int)<=1/\(1:Int)<(7:Nat),(by decide)⟩, .pf ⟨(0:Int)<=2/\(2:Int)<(7:Nat),(by decide)⟩, .pf ⟨(0:Int)<=3/\(3:Int)<(7:Nat),(by decide)⟩, .pf ⟨(0:Int)<=4/\(4:Int)<(7:Nat),(by decide)⟩, .pf ⟨[Pg u0 u1 u2 u3].length=1,rfl⟩, .pf ⟨aI 1 4 (kS 4 [.int .i64 u0,.int .i64 u1,.int .i64 u2,.int .i64 u3]) (YB u0 u1 u2 u3),(by intro i hi j hj;match i,j,hi,hj with|0,0,_,_=>rfl|0,1,_,_=>rfl|0,2,_,_=>rfl|0,3,_,_=>rfl)⟩, .e (p.am.length),0,1, .pf ⟨(XB p u0 u1 u2 u3).length=p.am.length+[Pg u0 u1 u2 u3].length,cd⟩, .pf ⟨aI (p.am.length+[Pg u0 u1 u2 u3].length) 4 (nM (ay aF.cell p.am) p.am.length (YB u0 u1 u2 u3)) (k67 p u0 u1 u2 u3),bS _ _ _ _⟩]<| .r<| .im (.re 17 1 0 99)<| .im (.re 17 2 1 100)<| .en ((⟨p.ae,p.aa,p.ac,XB p u0 u1 u2 u3⟩:ah),u7) [] [(99,3),(100,4),(98,5),(17,6)]))
  (.r<| .im (.re 17 1 0 101)<| .im (.re 17 2 1 102)<| .im (.re 17 3 2 103)<| .en (p,u7) [] [(101,3),(102,4),(103,5),(17,6)])))))))
theorem yu (a:List Source) (b:List Source):gT Tryz.prog 52 [sD (bQ none 5 Source.cell a),sD (bQ none 5 Source.cell b)] [] (fun r=>(vB r)) (fun _=>[]) (kR a b):=
  jM tT mX Tryz.func52 (
  .r<| .r<| .it (.r<| .e false)
  (.r<| .lp (σ:=Int) (β:=Unit) (0) [] [] ⟨[0,1],[],fun i=>[(5,vI i)],fun i=>[]⟩ ⟨[],[],fun _=>[],fun _=>[]⟩
  (fun i=> .r<| .it (.a2 ((0:Int)<=i/\i<(a.length:Int)) ((0:Int)<=i/\i<(b.length:Int))<| .rg {} [0,1]<| .it (.r<| .e (.done (.ret false)))
  (.r<| .e (.next (k4 i))))
  (.e (.done (.brk ()))))
  (fun _=> .r<| .e true)))
theorem AA (a:List aQ) (b:List aQ):gT Tryz.prog 126 [sD (bQ none 2 aQ.cell a),sD (bQ none 2 aQ.cell b)] [] (fun r=>(vB r)) (fun _=>[]) (mI a b):=
  jM tT mX Tryz.func126 (
  .r<| .r<| .it (.r<| .e false)
  (.r<| .lp (σ:=Int) (β:=Unit) (0) [] [] ⟨[0,1],[],fun i=>[(5,vI i)],fun i=>[]⟩ ⟨[],[],fun _=>[],fun _=>[]⟩
  (fun i=> .r<| .it (.a2 ((0:Int)<=i/\i<(a.length:Int)) ((0:Int)<=i/\i<(b.length:Int))<| .rg {} [0,1]<| .it (.r<| .e (.done (.ret false)))
  (.r<| .e (.next (k4 i))))
  (.e (.done (.brk ()))))
  (fun _=> .r<| .e true)))
section
variable (a:Link) (b:Link)
abbrev k78:=(bif (bif (bif (bif (decide (a.a=b.a))then(decide (a.b=b.b))else false)then(decide (a.kind=b.kind))else false)then(decide (a.most=b.most))else false)then(decide (a.ohm=b.ohm))else false)
end
theorem Bc (a:Link) (b:Link):gT Tryz.prog 99 [.agg (k1 a),.agg (k1 b)] [] (fun r=>(vB r)) (fun _=>[]) (nD a b):=
  jM tT mX Tryz.func99 (
  .rg {fr:=[(0,2),(1,3)],fz:=[2,3]} []<| .cg 38 [(k78 a b,true)] (AA a.trip b.trip) fun r_=> .r<| .e (bif (k78 a b)then r_ else false))
theorem zU (a:List Link) (b:List Link):gT Tryz.prog 53 [sD (bQ none 6 Link.cell a),sD (bQ none 6 Link.cell b)] [] (fun r=>(vB r)) (fun _=>[]) (mF a b):=
  jM tT mX Tryz.func53 (
  .r<| .r<| .it (.r<| .e false)
  (.r<| .lp (σ:=Int) (β:=Unit) (0) [] [] ⟨[0,1],[],fun i=>[(5,vI i)],fun i=>[]⟩ ⟨[],[],fun _=>[],fun _=>[]⟩
  (fun i=> .r<| .it (.cl 8 (Bc (at' a i.toNat) (at' b i.toNat)) fun r_=> .a2 (k46 a i) (k46 b i)<| .rg {} [0,1,2]<| .it (.r<| .e (.done (.ret false)))
  (.r<| .e (.next (k4 i))))
  (.e (.done (.brk ()))))
  (fun _=> .r<| .e true)))
theorem Af (a:List aF) (b:List aF):gT Tryz.prog 54 [sD (bQ none 4 aF.cell a),sD (bQ none 4 aF.cell b)] [] (fun r=>(vB r)) (fun _=>[]) (mD a b):=
  jM tT mX Tryz.func54 (
  .r<| .r<| .it (.r<| .e false)
  (.r<| .lp (σ:=Int) (β:=Unit) (0) [] [] ⟨[0,1],[],fun i=>[(5,vI i)],fun i=>[]⟩ ⟨[],[],fun _=>[],fun _=>[]⟩
  (fun i=> .r<| .it (.a2 ((0:Int)<=i/\i<(a.length:Int)) ((0:Int)<=i/\i<(b.length:Int))<| .rg {} [0,1]<| .it (.r<| .e (.done (.ret false)))
  (.r<| .e (.next (k4 i))))
  (.e (.done (.brk ()))))
  (fun _=> .r<| .e true)))
theorem zN (a:ah) (b:ah):gT Tryz.prog 20 [.agg (k0 a),.agg (k0 b)] [] (fun r=>(vB r)) (fun _=>[]) (iN a b):=
  jM tT mX Tryz.func20 (
  .rg {fr:=[(0,2),(1,3)],fz:=[2,3]} []<| .cg 10 [(decide (a.ae=b.ae),true)] (yu a.aa b.aa) fun r_=> .cg 17 [((bif (decide (a.ae=b.ae))then r_ else false),true)] (zU a.ac b.ac) fun u0=> .cg 24 [((bif (bif (decide (a.ae=b.ae))then r_ else false)then u0 else false),true)] (Af a.am b.am) fun u1=> .r<| .e (bif (bif (bif (decide (a.ae=b.ae))then r_ else false)then u0 else false)then u1 else false))
section
variable (s_:State) (p:ah) (u0:Int)
abbrev X9:List CV:=[.d (bQ none 1 af s_.a_),.d (bQ none 1 af s_.ba),.d (bQ none 1 af s_.aq),.d (bQ none 1 af s_.on_),.d (bQ none 1 af s_.ag),.d (bQ none 1 af s_.aw),.d (bQ none 1 af s_.ap)]
abbrev Tk:List SV:=[.agg (k0 p),.agg (X9 s_)]
abbrev k81:=(⟨s_.a_,(p.ac.length:Int)⟩:dw)
abbrev YH:=(⟨s_.ba,(p.ac.length:Int)⟩:dw)
abbrev Zg:=(⟨s_.aq,(p.ac.length:Int)⟩:dw)
abbrev YZ:=(⟨s_.on_,(p.aa.length:Int)⟩:dw)
abbrev Zh:=(⟨s_.ag,(p.aa.length:Int)⟩:dw)
abbrev k86:=(ay dw.cell [k81 s_ p,YH s_ p,Zg s_ p,YZ s_ p,Zh s_ p,(⟨s_.aw,p.ae⟩:dw),(⟨s_.ap,p.ae⟩:dw)])
abbrev k87:=((gB [(decide (((at' p.ac u0.toNat).kind)=1),true)]=true->(0:Int)<=u0/\u0<(s_.a_.length:Int)))
abbrev k88:=((gB [(!(at' s_.a_ u0.toNat),false),(decide (((at' p.ac u0.toNat).kind)=1),true)]=true->(0:Int)<=u0/\u0<(s_.ba.length:Int)))
end
theorem cK (p:ah) (s_:State):gT Tryz.prog 37 (Tk s_ p) [] (fun r=>(vI r)) (fun _=>[]) (bT p s_):=
  jM tT mX Tryz.func37 (
  .rg {fr:=[(0,11),(1,12)]} []<| .cl 1 (gX p) fun r_=> .r<| .r<| .it (.r<| .e r_)
  (.r<| .rg {an:=[(30, .arr [k81 s_ p,YH s_ p,Zg s_ p,YZ s_ p,Zh s_ p,(⟨s_.aw,p.ae⟩:dw),(⟨s_.ap,p.ae⟩:dw)].length (k86 s_ p))],fr:=[(30,13)],fz:=[12]} [.pf ⟨[k81 s_ p,YH s_ p,Zg s_ p,YZ s_ p,Zh s_ p,(⟨s_.aw,p.ae⟩:dw),(⟨s_.ap,p.ae⟩:dw)].length=7,rfl⟩, .pf ⟨aI 7 2 (kS 2 [bQ none 1 af s_.a_,.int .i64 (p.ac.length:Int),bQ none 1 af s_.ba,.int .i64 (p.ac.length:Int),bQ none 1 af s_.aq,.int .i64 (p.ac.length:Int),bQ none 1 af s_.on_,.int .i64 (p.aa.length:Int),bQ none 1 af s_.ag,.int .i64 (p.aa.length:Int),bQ none 1 af s_.aw,.int .i64 p.ae,bQ none 1 af s_.ap,.int .i64 p.ae]) (k86 s_ p),(by intro i hi j hj;match i,j,hi,hj with|0,0,_,_=>rfl|0,1,_,_=>rfl|1,0,_,_=>rfl|1,1,_,_=>rfl|2,0,_,_=>rfl|2,1,_,_=>rfl|3,0,_,_=>rfl|3,1,_,_=>rfl|4,0,_,_=>rfl|4,1,_,_=>rfl|5,0,_,_=>rfl|5,1,_,_=>rfl|6,0,_,_=>rfl|6,1,_,_=>rfl)⟩]<| .lp (σ:=Int) (β:=Unit) (0) [] [] ⟨[2,3,53,54],[11,13],fun u1=>[(55,vI u1)],fun u1=>[]⟩ ⟨[2,3],[11],fun _=>[],fun _=>[]⟩
  (fun u1=> .r<| .it (.a1 ((0:Int)<=u1/\u1<([k81 s_ p,YH s_ p,Zg s_ p,YZ s_ p,Zh s_ p,(⟨s_.aw,p.ae⟩:dw),(⟨s_.ap,p.ae⟩:dw)].length:Int))<| .rg {fr:=[(2,17)],fz:=[17]} [0, .t 0 u1 ([k81 s_ p,YH s_ p,Zg s_ p,YZ s_ p,Zh s_ p,(⟨s_.aw,p.ae⟩:dw),(⟨s_.ap,p.ae⟩:dw)].length)]<| .r<| .it (.r<| .e (.done (.ret 9)))
  (.r<| .e (.next (k4 u1))))
  (.e (.done (.brk ()))))
  (fun _=> .r<| .lp (σ:=Int) (β:=Unit) (0) [] [] ⟨[3,67,68],[],fun u0=>[(69,vI u0)],fun u0=>[]⟩ ⟨[],[],fun _=>[],fun _=>[]⟩
  (fun u0=> .r<| .it (.a1 (k7 p u0)<| .rg {fr:=[(3,21)],fz:=[21]} []<| .a2 (k87 s_ p u0) (k88 s_ p u0)<| .rg {} [0,1]<| .it (.r<| .e (.done (.ret 9)))
  (.r<| .e (.next (k4 u0))))
  (.e (.done (.brk ()))))
  (fun _=> .r<| .e 0))))
theorem wG (p:ah) (s_:State):gT Tryz.prog 85 (Tk s_ p) [] (fun r=>(vD (.fn 110 2 (zX [RG [.int .i64 r.1,bQ none 5 Source.cell r.2.1,bQ none 6 Link.cell r.2.2.1,bQ none 4 aF.cell r.2.2.2.1] 0,RG [bQ none 1 af r.2.2.2.2.1,bQ none 1 af r.2.2.2.2.2.1,bQ none 1 af r.2.2.2.2.2.2.1,bQ none 1 af r.2.2.2.2.2.2.2.1,bQ none 1 af r.2.2.2.2.2.2.2.2.1,bQ none 1 af r.2.2.2.2.2.2.2.2.2.1,bQ none 1 af r.2.2.2.2.2.2.2.2.2.2] 0])))) (fun _=>[]) (rA p s_):=
  jM tT mX Tryz.func85 (
  .rg {fr:=[(0,2),(1,3)],fz:=[2,3]} []<| .r<| .e (p.ae,p.aa,p.ac,p.am,s_.a_,s_.ba,s_.aq,s_.on_,s_.ag,s_.aw,s_.ap))
noncomputable def jY:jw:=⟨[22],TJ ([1,1,0,1,0]++[0]) (lV Tryz.f38),TJ ([1,1,0,1,0]++[1]) (lV Tryz.f38),125,[]⟩
section
variable (g:aL)
abbrev k90:Ob:=(Nf 3 3 false false 1 1 (aS .i64) (aS .i64) g.bj)
abbrev k89:List (Nat × Option Ob):=[(0,some (k90 g))]
end
theorem dM (g:aL) (x:Int):gT Tryz.prog 87 [.agg [.mp 0],sI x] (k89 g) (fun r=>(vI r)) (fun r=>(k89 g)) (dP g x):=
  jM tT mX Tryz.func87 (
  .rg {fr:=[(0,2)]} []<| .lp (σ:=Int) (β:=Unit) (x) [] [] ⟨[2],[0,2],fun x1=>[(1,vI x1)],fun x1=>[]⟩ ⟨[],[],fun _=>[],fun _=>[]⟩
  (fun x1=> .rg {an:=[(3, .look (bn fO x1 g.bj).isSome [cI ((bn fO x1 g.bj).getD 0)])]} [.pf ⟨ku [.i .i64] 1 1 g.bj.length (lY (aS .i64) g.bj) (mE (aS .i64) g.bj) [.int .i64 x1] [.d (.int .i64 0)] (bn fO x1 g.bj).isSome [cI ((bn fO x1 g.bj).getD 0)],iL (fun _=>rfl) (fun _ _=>rfl) g.bj x1 0 rfl rfl rfl⟩]<| .r<| .it (.r<| .e (.done (.ret x1)))
  (.r<| .e (.next ((bn fO x1 g.bj).getD 0))))
  (fun _=> .no))
theorem uR (g:aL) (a:Int) (b:Int):gT Tryz.prog 86 [.agg [.mp 0],sI a,sI b] (k89 g) (fun r=>(.eZ [])) (fun r=>[(0,some (Nf 3 3 false false 1 1 (aS .i64) (aS .i64) r))]) (qf g a b):=
  jM tT mX Tryz.func86 (
  .rg {fr:=[(0,2)]} []<| .cr 2 (dM g a) fun r_=> .cr 5 (dM g b) fun u0=> .r<| .r<| .it (.rg {an:=[(4, .map (aD fO r_ u0 g.bj).length (lY (aS .i64) (aD fO r_ u0 g.bj)) (mE (aS .i64) (aD fO r_ u0 g.bj)) [])]} [.pf ⟨jH [.i .i64] 1 1 g.bj.length (lY (aS .i64) g.bj) (mE (aS .i64) g.bj) [.int .i64 r_] [cI u0] [] (aD fO r_ u0 g.bj).length (lY (aS .i64) (aD fO r_ u0 g.bj)) (mE (aS .i64) (aD fO r_ u0 g.bj)),jL (fun _=>rfl) (fun _ _=>rfl) g.bj r_ u0 rfl rfl⟩]<| .e (aD fO r_ u0 g.bj))
  (.e g.bj))
section
variable (o_:aL)
abbrev k92:Nat × Option Ob:=(0,some (.loop jY 0 [(5,vP 1 0)]))
abbrev k91:List (Nat × Option Ob):=[k92,(1,some (.cells 157 [.mp 2])),(2,some (k90 o_))]
end
theorem ni (u0:Int) (u1:Int) (u2:Int) (u3:Int) (u4:Int) (u5:List aQ) (o_:aL):YC Tryz.prog 0 [.agg [cI u0,cI u1,cI u2,cI u3,cI u4,.d (bQ none 2 aQ.cell u5)]] (k91 o_) (fun _=>vB true) (fun r=>[k92,(1,some (.cells 157 [.mp 2])),(2,some (Nf 3 3 false false 1 1 (aS .i64) (aS .i64) r.bj))]) (lg u0 u1 u2 u3 u4 u5 o_):=
  scY tT mX jY ⟨[5],[0,1,2],fun _=>[(6,vD (RG [.int .i64 u0,.int .i64 u1,.int .i64 u2,.int .i64 u3,.int .i64 u4,bQ none 2 aQ.cell u5] 0))],fun _=>[]⟩ (.rg {fr:=[(0,4)],fz:=[4]} []<| .e ())
  (.cl 5 (vz [(0,2)] (uR o_ u0 u1)) fun r_=> .r<| .e (⟨r_⟩:aL))
section
variable (o0:List (Int × Int)) (x2:List Bool) (t9:Int) (u2:List Bool) (u1:List Bool) (u0:List Link)
abbrev k93:Ob:=(Nf 3 3 false false 1 1 (aS .i64) (aS .i64) o0)
abbrev k94:=(bif (bif (at' x2 t9.toNat)then(!(at' u2 t9.toNat))else false)then(!(at' u1 (((at' u0 t9.toNat).a).toNat)))else false)
abbrev Yk:=((0:Int)<=t9/\t9<(x2.length:Int))
abbrev k96:=((gB [((bif (at' x2 t9.toNat)then(!(at' u2 t9.toNat))else false),true)]=true->(0:Int)<=(at' u0 t9.toNat).a/\(at' u0 t9.toNat).a<(u1.length:Int)))
abbrev k97:=((gB [(k94 x2 t9 u2 u1 u0,true)]=true->(0:Int)<=(at' u0 t9.toNat).b/\(at' u0 t9.toNat).b<(u1.length:Int)))
end
theorem tQ (x1:Int) (u3:List Source) (u0:List Link) (u4:List aF) (x2:List Bool) (u5:List Bool) (u2:List Bool) (u6:List Bool) (u7:List Bool) (u8:List Bool) (u1:List Bool) (o_:aL):gT Tryz.prog 110 [.one (.yl 0),sD (YE x1 u3 u0 u4),sD (RG [bQ none 1 af x2,bQ none 1 af u5,bQ none 1 af u2,bQ none 1 af u6,bQ none 1 af u7,bQ none 1 af u8,bQ none 1 af u1] 0)] (k91 o_) (fun r=>(.eZ [])) (fun r=>[k92,(1,some (.cells 157 [.mp 2])),(2,some (Nf 3 3 false false 1 1 (aS .i64) (aS .i64) r.bj))]) (pU x1 u3 u0 u4 x2 u5 u2 u6 u7 u8 u1 o_):=
  jM tT mX Tryz.func110 (
  .r<| .lp (σ:=((List (Int × Int)) × Int)) (β:=(List (Int × Int))) (o_.bj,0) [] [] ⟨[0,2,7,8],[0,1],fun(o0,t9)=>[(9,vI t9)],fun(o0,t9)=>[(2,some (k93 o0))]⟩ ⟨[],[0,1],fun o01=>[],fun o01=>[(2,some (Nf 3 3 false false 1 1 (aS .i64) (aS .i64) o01))]⟩
  (fun(o0,t9)=> .r<| .it (.a1 (k46 u0 t9)<| .rg {fr:=[(3,10)],fz:=[10]} []<| .fk (bif (k94 x2 t9 u2 u1 u0)then(!(at' u1 (((at' u0 t9.toNat).b).toNat)))else false) (.cy 34 (ni ((at' u0 t9.toNat).a) ((at' u0 t9.toNat).b) ((at' u0 t9.toNat).kind) ((at' u0 t9.toNat).most) ((at' u0 t9.toNat).ohm) ((at' u0 t9.toNat).trip) (⟨o0⟩:aL)) fun r_=> .a4 (Yk x2 t9) ((gB [(at' x2 t9.toNat,true)]=true->(0:Int)<=t9/\t9<(u2.length:Int))) (k96 x2 t9 u2 u1 u0) (k97 x2 t9 u2 u1 u0)<| .rg {ov:=[(31,true,5)]} [0,1,2,3, .k 4]<| .f<| .r<| .e (.next (r_.bj,k4 t9)))
  (.a4 (Yk x2 t9) ((gB [(at' x2 t9.toNat,true)]=true->(0:Int)<=t9/\t9<(u2.length:Int))) (k96 x2 t9 u2 u1 u0) (k97 x2 t9 u2 u1 u0)<| .rg {ov:=[(31,false,4)],sk:=[32,33,34,35]} [0,1,2,3]<| .f<| .r<| .e (.next (o0,k4 t9))))
  (.e (.done (.brk o0))))
  (fun o01=> .e (⟨o01⟩:aL)))
section
variable (r_:Int × (List Source) × (List Link) × (List aF) × (List Bool) × (List Bool) × (List Bool) × (List Bool) × (List Bool) × (List Bool) × (List Bool)) (u1:List aj) (u2:List (Int × Int)) (u3:Int) (s_:State) (u0:Int) (u5:List aj) (u7:Int) (p:ah) (u6:Int) (u4:List (Int × Int))
abbrev k98:=(vz [(0,59),(1,58),(2,57)] (tQ r_.1 r_.2.1 r_.2.2.1 r_.2.2.2.1 r_.2.2.2.2.1 r_.2.2.2.2.2.1 r_.2.2.2.2.2.2.1 r_.2.2.2.2.2.2.2.1 r_.2.2.2.2.2.2.2.2.1 r_.2.2.2.2.2.2.2.2.2.1 r_.2.2.2.2.2.2.2.2.2.2 (⟨([]:(List (Int × Int)))⟩:aL)))
abbrev k99:List (Nat × Option Ob):=[(60,some (.rows 94 2 u1.length (qU aj.ev u1) none)),(61,some (k93 u2))]
abbrev ZG:=((0:Int)<=u3/\u3<(s_.ap.length:Int))
abbrev oK:=((bn fO u0 u2).getD 0)
abbrev En:List CV:=[cI (oK u2 u0)]
abbrev EI:=(aD fO u0 (u1.length:Int) u2)
abbrev Qu:=(lY (aS .i64) (EI u1 u2 u0))
abbrev Qw:=(mE (aS .i64) (EI u1 u2 u0))
abbrev aaN:=((u1.length+[(⟨([]:List Int),([]:List Int)⟩:aj)].length)*48<=140737488355328)
abbrev Zd:=(u1.length+[(⟨([]:List Int),([]:List Int)⟩:aj)].length<=4611686018427387904)
abbrev Dx:=(u1++[(⟨([]:List Int),([]:List Int)⟩:aj)])
abbrev Uz:=(qU aj.ev (Dx u1))
abbrev TG:=(bn fO u0 (EI u1 u2 u0))
abbrev Ev:=((TG u1 u2 u0).getD 0)
abbrev UY:List CV:=[cI (Ev u1 u2 u0)]
abbrev Zi:=((0:Int)<=(Ev u1 u2 u0)/\(Ev u1 u2 u0)<((Dx u1).length:Int))
abbrev XU:=((Ev u1 u2 u0).toNat)
abbrev Zr:=(at' (Dx u1) (XU u1 u2 u0))
abbrev Ib:=((Zr u1 u2 u0).ae)
abbrev X3:=((Ib u1 u2 u0).length+[u3].length)
abbrev ZP:=((X3 u1 u2 u3 u0)*8<=140737488355328)
abbrev Ze:=((Ib u1 u2 u0).length+[u3].length<=4611686018427387904)
abbrev MQ:=((Ib u1 u2 u0)++[u3])
abbrev RN:=(ay (aS .i64) (MQ u1 u2 u3 u0))
abbrev V7:=((Dx u1).set (XU u1 u2 u0) (⟨MQ u1 u2 u3 u0,(Zr u1 u2 u0).aa⟩:aj))
abbrev U5:=(qU aj.ev (V7 u1 u2 u3 u0))
abbrev VD:=((Dx u1).length)
abbrev Rh:=(kS 1 [.int .i64 u3])
abbrev Zu:=((Ib u1 u2 u0).length)
abbrev Y3:=(nM (ay (aS .i64) (Ib u1 u2 u0)) (Ib u1 u2 u0).length (ay (aS .i64) [u3]))
abbrev aaM:=((MQ u1 u2 u3 u0).length)
abbrev Z0:=(WS (Uz u1) (XU u1 u2 u0) 0 (.row 3 1 (MQ u1 u2 u3 u0).length (RN u1 u2 u3 u0)))
abbrev abV:=((some ((Ev u1 u2 u0).toNat,0,CV.own 88 false (Ib u1 u2 u0).length)):Option (Nat × Nat × CV))
abbrev YU:=(V7 u1 u2 u3 u0,EI u1 u2 u0,k4 u3)
abbrev Vw:=((0:Int)<=(oK u2 u0)/\(oK u2 u0)<(u1.length:Int))
abbrev Hy:=((at' u1 ((oK u2 u0).toNat)).ae)
abbrev Yi:=((Hy u1 u2 u0).length+[u3].length)
abbrev Zb:=((Yi u1 u2 u3 u0)*8<=140737488355328)
abbrev Y7:=((Hy u1 u2 u0).length+[u3].length<=4611686018427387904)
abbrev Lg:=((Hy u1 u2 u0)++[u3])
abbrev Sq:=(ay (aS .i64) (Lg u1 u2 u3 u0))
abbrev U1:=(u1.set ((oK u2 u0).toNat) (⟨Lg u1 u2 u3 u0,(at' u1 ((oK u2 u0).toNat)).aa⟩:aj))
abbrev WA:=(qU aj.ev (U1 u1 u2 u3 u0))
abbrev ZK:=((Hy u1 u2 u0).length)
abbrev Y6:=(nM (ay (aS .i64) (Hy u1 u2 u0)) (Hy u1 u2 u0).length (ay (aS .i64) [u3]))
abbrev aaG:=((Lg u1 u2 u3 u0).length)
abbrev YK:=(WS (qU aj.ev u1) ((oK u2 u0).toNat) 0 (.row 3 1 (Lg u1 u2 u3 u0).length (Sq u1 u2 u3 u0)))
abbrev abp:=((some ((oK u2 u0).toNat,0,CV.own 91 false (Hy u1 u2 u0).length)):Option (Nat × Nat × CV))
abbrev aaP:=(U1 u1 u2 u3 u0,u2,k4 u3)
abbrev ZF:List (Nat × Option Ob):=[(60,some (.rows 94 2 u5.length (qU aj.ev u5) none))]
abbrev YN:=((0:Int)<=u7/\u7<(s_.on_.length:Int))
abbrev YG:=((gB [(at' s_.on_ u7.toNat,true)]=true->(0:Int)<=u7/\u7<(s_.ag.length:Int)))
abbrev Zf:=((bif (at' s_.on_ u7.toNat)then(!(at' s_.ag u7.toNat))else false),true)
abbrev aae:=((gB [Zf s_ u7]=true->(0:Int)<=(at' p.aa u7.toNat).bus/\(at' p.aa u7.toNat).bus<(s_.ap.length:Int)))
abbrev Ih:=((at' u5 ((oK u4 u6).toNat)).aa)
abbrev Xv:=((Ih u5 u6 u4).length+[u7].length)
abbrev Y5:=((Xv u5 u7 u6 u4)*8<=140737488355328)
abbrev ZB:=((Ih u5 u6 u4).length+[u7].length<=4611686018427387904)
abbrev Lc:=((Ih u5 u6 u4)++[u7])
abbrev TH:=(ay (aS .i64) (Lc u5 u7 u6 u4))
abbrev UQ:=(u5.set ((oK u4 u6).toNat) (⟨(at' u5 ((oK u4 u6).toNat)).ae,Lc u5 u7 u6 u4⟩:aj))
abbrev U2:=(qU aj.ev (UQ u5 u7 u6 u4))
abbrev YJ:=((Ih u5 u6 u4).length)
abbrev aar:=(nM (ay (aS .i64) (Ih u5 u6 u4)) (Ih u5 u6 u4).length (ay (aS .i64) [u7]))
abbrev ZV:=((Lc u5 u7 u6 u4).length)
abbrev aao:=(WS (qU aj.ev u5) ((oK u4 u6).toNat) 1 (.row 3 1 (Lc u5 u7 u6 u4).length (TH u5 u7 u6 u4)))
abbrev abJ:=((some ((oK u4 u6).toNat,1,CV.own 107 false (Ih u5 u6 u4).length)):Option (Nat × Nat × CV))
abbrev Y4:=(UQ u5 u7 u6 u4,k4 u7)
end
theorem mU (p:ah) (s_:State):gT Tryz.prog 38 (Tk s_ p) [] (fun r=>(vD (bQ none 2 aj.cell r))) (fun _=>[]) (mJ p s_):=
  jM tT mX Tryz.func38 (
  .rg {fr:=[(0,55),(1,56)],fz:=[56]} []<| .rg {an:=[(0, .map 0 (lY (aS .i64) ([]:(List (Int × Int)))) (mE (aS .i64) ([]:(List (Int × Int)))) [])],fr:=[(0,57),(2,58)]} []<| .cl 2 (wG p s_) fun r_=> .r<| .cl 0 (k98 r_) fun v0=> .rf 59 [5] [] none 0 []<| .r<| .im (.adR 7 60 94 2 (qU aj.ev ([]:List aj)))<| .rg {an:=[(0, .map 0 (lY (aS .i64) ([]:(List (Int × Int)))) (mE (aS .i64) ([]:(List (Int × Int)))) [])],fr:=[(0,61)]} []<| .r<| .lp (σ:=((List aj) × (List (Int × Int)) × Int)) (β:=((List aj) × (List (Int × Int)))) (([]:List aj),([]:(List (Int × Int))),0) [] [] ⟨[2,3,5,8,31],[55,57,58],fun(u1,u2,u3)=>[(7,vO 60 false u1.length),(32,vI u3)],fun(u1,u2,u3)=>(k99 u1 u2)⟩ ⟨[2,3,5,8],[55,57,58],fun(u9,u4)=>[(7,vO 60 false u9.length)],fun(u9,u4)=>(k99 u9 u4)⟩
  (fun(u1,u2,u3)=> .r<| .it (.r<| .a1 (ZG u3 s_)<| .r<| .it (.r<| .e (.next (u1,u2,k4 u3)))
  (.cr 2 (vz [(0,57)] (dM v0 u3)) fun u0=> .r<| .rg {an:=[(2, .look (bn fO u0 u2).isSome (En u2 u0))]} [.pf ⟨ku [.i .i64] 1 1 u2.length (lY (aS .i64) u2) (mE (aS .i64) u2) [.int .i64 u0] [.d (.int .i64 0)] (bn fO u0 u2).isSome (En u2 u0),iL (fun _=>rfl) (fun _ _=>rfl) u2 u0 0 rfl rfl rfl⟩]<| .r<| .it (.rg {an:=[(4, .map (EI u1 u2 u0).length (Qu u1 u2 u0) (Qw u1 u2 u0) [])]} [.pf ⟨jH [.i .i64] 1 1 u2.length (lY (aS .i64) u2) (mE (aS .i64) u2) [.int .i64 u0] [cI (u1.length:Int)] [] (EI u1 u2 u0).length (Qu u1 u2 u0) (Qw u1 u2 u0),jL (fun _=>rfl) (fun _ _=>rfl) u2 u0 (u1.length:Int) rfl rfl⟩]<| .a2 (aaN u1) (Zd u1)<| .rg {an:=[(2, .arr [(⟨([]:List Int),([]:List Int)⟩:aj)].length (kS 2 [nS,nS])),(3, .rows (Dx u1).length (Uz u1))],fr:=[(2,86),(3,87)]} [.pf ⟨[(⟨([]:List Int),([]:List Int)⟩:aj)].length=1,rfl⟩, .pf ⟨aI 1 2 (kS 2 [nS,nS]) (kS 2 [nS,nS]),qV _ _ _⟩, .e (u1.length),0,1, .pf ⟨(Dx u1).length=u1.length+[(⟨([]:List Int),([]:List Int)⟩:aj)].length,cd⟩, .pf ⟨BH u1.length [(⟨([]:List Int),([]:List Int)⟩:aj)].length 2 (qU aj.ev u1) (kS 2 [nS,nS]) (Uz u1),Pw _ _ _ _ _ (by intro i hi j hj;match i,j,hi,hj with|0,0,_,_=>exact⟨rfl,_,_,_,rfl⟩|0,1,_,_=>exact⟨rfl,_,_,_,rfl⟩)⟩]<| .rg {an:=[(2, .look (TG u1 u2 u0).isSome (UY u1 u2 u0))]} [.pf ⟨ku [.i .i64] 1 1 (EI u1 u2 u0).length (Qu u1 u2 u0) (Qw u1 u2 u0) [.int .i64 u0] [.d (.int .i64 0)] (TG u1 u2 u0).isSome (UY u1 u2 u0),iL (fun _=>rfl) (fun _ _=>rfl) (EI u1 u2 u0) u0 0 rfl rfl rfl⟩]<| .a3 (Zi u1 u2 u0) (ZP u1 u2 u3 u0) (Ze u1 u2 u3 u0)<| .rg {an:=[(6, .take 88),(8, .arr [u3].length (ay (aS .i64) [u3])),(9, .arr (MQ u1 u2 u3 u0).length (RN u1 u2 u3 u0)),(12, .rows 0 (U5 u1 u2 u3 u0))],fr:=[(8,89),(9,90)]} [0, .t 0 (Ev u1 u2 u0) (VD u1), .pf ⟨[u3].length=1,rfl⟩, .pf ⟨aI 1 1 (Rh u3) (ay (aS .i64) [u3]),(by intro i hi j hj;match i,j,hi,hj with|0,0,_,_=>rfl)⟩, .e (Zu u1 u2 u0),1,2, .pf ⟨(MQ u1 u2 u3 u0).length=(Ib u1 u2 u0).length+[u3].length,cd⟩, .pf ⟨aI (X3 u1 u2 u3 u0) 1 (Y3 u1 u2 u3 u0) (RN u1 u2 u3 u0),bS _ _ _ _⟩,0, .t 0 (Ev u1 u2 u0) (VD u1), .e (aaM u1 u2 u3 u0), .pf ⟨LJ (Dx u1).length 2 (Z0 u1 u2 u3 u0) (U5 u1 u2 u3 u0),uf _ _ _ _ _ _ _ _ rfl (fun j hj=>(match j,hj with|0,_=>rfl|1,_=>rfl))⟩, .pf ⟨∀i0 j0 c0,(abV u1 u2 u0)=some (i0,j0,c0)->i0=(Ev u1 u2 u0).toNat/\j0=0,(fun i0 j0 c0 e=>by cases e;exact⟨rfl,rfl⟩)⟩]<| .im (.ll 87 (Dx u1) (V7 u1 u2 u3 u0))<| .r<| .en (.next (YU u1 u2 u3 u0)) [] [(87,60)])
  (.rg {an:=[(2, .look (bn fO u0 u2).isSome (En u2 u0))]} [.pf ⟨ku [.i .i64] 1 1 u2.length (lY (aS .i64) u2) (mE (aS .i64) u2) [.int .i64 u0] [.d (.int .i64 0)] (bn fO u0 u2).isSome (En u2 u0),iL (fun _=>rfl) (fun _ _=>rfl) u2 u0 0 rfl rfl rfl⟩]<| .a3 (Vw u1 u2 u0) (Zb u1 u2 u3 u0) (Y7 u1 u2 u3 u0)<| .rg {an:=[(6, .take 91),(8, .arr [u3].length (ay (aS .i64) [u3])),(9, .arr (Lg u1 u2 u3 u0).length (Sq u1 u2 u3 u0)),(12, .rows 0 (WA u1 u2 u3 u0))],fr:=[(8,92),(9,93)]} [0, .t 0 (oK u2 u0) u1.length, .pf ⟨[u3].length=1,rfl⟩, .pf ⟨aI 1 1 (Rh u3) (ay (aS .i64) [u3]),(by intro i hi j hj;match i,j,hi,hj with|0,0,_,_=>rfl)⟩, .e (ZK u1 u2 u0),1,2, .pf ⟨(Lg u1 u2 u3 u0).length=(Hy u1 u2 u0).length+[u3].length,cd⟩, .pf ⟨aI (Yi u1 u2 u3 u0) 1 (Y6 u1 u2 u3 u0) (Sq u1 u2 u3 u0),bS _ _ _ _⟩,0, .t 0 (oK u2 u0) u1.length, .e (aaG u1 u2 u3 u0), .pf ⟨LJ u1.length 2 (YK u1 u2 u3 u0) (WA u1 u2 u3 u0),uf _ _ _ _ _ _ _ _ rfl (fun j hj=>(match j,hj with|0,_=>rfl|1,_=>rfl))⟩, .pf ⟨∀i0 j0 c0,(abp u1 u2 u0)=some (i0,j0,c0)->i0=(oK u2 u0).toNat/\j0=0,(fun i0 j0 c0 e=>by cases e;exact⟨rfl,rfl⟩)⟩]<| .im (.ll 60 u1 (U1 u1 u2 u3 u0))<| .r<| .e (.next (aaP u1 u2 u3 u0)))))
  (.e (.done (.brk (u1,u2)))))
  (fun(u9,u4)=> .r<| .lp (σ:=((List aj) × Int)) (β:=(List aj)) (u9,0) [] [] ⟨[3,5,8,76,77],[57,58,61],fun(u5,u7)=>[(7,vO 60 false u5.length),(78,vI u7)],fun(u5,u7)=>(ZF u5)⟩ ⟨[],[],fun u8=>[(7,vO 60 false u8.length)],fun u8=>(ZF u8)⟩
  (fun(u5,u7)=> .r<| .it (.a1 (k6 p u7)<| .rg {fr:=[(3,106)],fz:=[106]} []<| .a3 (YN s_ u7) (YG s_ u7) (aae s_ u7 p)<| .rg {} [0,1,2]<| .it (.cr 4 (vz [(0,57)] (dM v0 ((at' p.aa u7.toNat).bus))) fun u6=> .rg {an:=[(5, .look (bn fO u6 u4).isSome (En u4 u6))]} [0, .pf ⟨ku [.i .i64] 1 1 u4.length (lY (aS .i64) u4) (mE (aS .i64) u4) [.int .i64 u6] [.d (.int .i64 0)] (bn fO u6 u4).isSome (En u4 u6),iL (fun _=>rfl) (fun _ _=>rfl) u4 u6 0 rfl rfl rfl⟩]<| .a3 (Vw u5 u4 u6) (Y5 u5 u7 u6 u4) (ZB u5 u7 u6 u4)<| .rg {an:=[(6, .take 107),(8, .arr [u7].length (ay (aS .i64) [u7])),(9, .arr (Lc u5 u7 u6 u4).length (TH u5 u7 u6 u4)),(12, .rows 0 (U2 u5 u7 u6 u4))],fr:=[(8,108),(9,109)]} [0, .t 0 (oK u4 u6) u5.length, .pf ⟨[u7].length=1,rfl⟩, .pf ⟨aI 1 1 (Rh u7) (ay (aS .i64) [u7]),(by intro i hi j hj;match i,j,hi,hj with|0,0,_,_=>rfl)⟩, .e (YJ u5 u6 u4),1,2, .pf ⟨(Lc u5 u7 u6 u4).length=(Ih u5 u6 u4).length+[u7].length,cd⟩, .pf ⟨aI (Xv u5 u7 u6 u4) 1 (aar u5 u7 u6 u4) (TH u5 u7 u6 u4),bS _ _ _ _⟩,0, .t 0 (oK u4 u6) u5.length, .e (ZV u5 u7 u6 u4), .pf ⟨LJ u5.length 2 (aao u5 u7 u6 u4) (U2 u5 u7 u6 u4),uf _ _ _ _ _ _ _ _ rfl (fun j hj=>(match j,hj with|0,_=>rfl|1,_=>rfl))⟩, .pf ⟨∀i0 j0 c0,(abJ u5 u6 u4)=some (i0,j0,c0)->i0=(oK u4 u6).toNat/\j0=1,(fun i0 j0 c0 e=>by cases e;exact⟨rfl,rfl⟩)⟩]<| .im (.ll 60 u5 (UQ u5 u7 u6 u4))<| .r<| .e (.next (Y4 u5 u7 u6 u4)))
  (.r<| .e (.next (u5,k4 u7))))
  (.e (.done (.brk u5))))
  (fun u8=> .rg {fz:=[60]} []<| .im (.us 4 (vD (.sl none 2 u8.length (fun i j=>evD (qU aj.ev u8 i j)))) (vD (bQ none 2 aj.cell u8)) (Db.v (A7.one (su.d (o9.sl (.inr rfl) (fun i _ j hj=>match j,hj with|0,_=> .refl _|1,_=> .refl _))))))<| .e u8)))
theorem zW (p:ah) (s_:State):gT Tryz.prog 11 (Tk s_ p) [] (fun r=>(.eZ [sD (bQ none 2 aj.cell r.1),sI r.2])) (fun _=>[]) (vU p s_):=
  jM tT mX Tryz.func11 (
  .rg {fr:=[(0,2),(1,3)],fz:=[2,3]} []<| .cl 2 (cK p s_) fun r_=> .r<| .r<| .it (.r<| .e (([]:List aj),r_))
  (.cl 2 (mU p s_) fun u0=> .r<| .e (u0,0)))
theorem iR (x y:aC):Go.Proofs.ltOf dU x y=true↔x.e0<y.e0\/ ¬ y.e0<x.e0/\x.e1<y.e1:=by
 unfold Go.Proofs.ltOf dU;rw [de];by_cases h0:x.e0<y.e0<;>by_cases g0:y.e0<x.e0<;>by_cases h1:x.e1<y.e1<;>by_cases g1:y.e1<x.e1<;>simp [h0,g0,h1,g1]
theorem wH:Go.Sort.SWO (Go.Proofs.ltOf dU) where
 irrefl x:=by rw [<-Bool.not_eq_true,iR];omega
 trans x y z h1 h2:=by rw [iR]at*;omega
 ntrans x y z h1 h2:=by rw [<-Bool.not_eq_true,iR]at*;omega
theorem wF (x y:aC) (h1:(Go.Proofs.ltOf dU) x y=false) (h2:(Go.Proofs.ltOf dU) y x=false):x=y:=by
 rw [<-Bool.not_eq_true,iR]at h1 h2;obtain⟨a,b⟩:=x;obtain⟨c,d⟩:=y;have e1:a=c:=by simp only at h1 h2;omega
 have e2:b=d:=by simp only at h1 h2;omega
 rw [e1,e2]
theorem xH (s:List aC) {r:List aC} (h:sF s=some r):Fn Tryz.prog 42 [.one (.own 0 false s.length),sD (.fn 43 0 (zX []))] [(0,some (.arr 74 2 s.length (ay aC.cell s)))] (.eZ []) [(0,some (.arr 74 2 r.length (ay aC.cell r)))]:=
 XE R6 2 U4 RO (fun x:aC=>[.int .i64 x.e0, .int .i64 x.e1]) (fun _=>rfl) (fun x v hv=>by simp at hv;rcases hv with rfl|rfl<;>rfl) dU wH wF
  (Oz (fun x:aC=>[.int .i64 x.e0, .int .i64 x.e1]) (fun x=>x.e0) (fun x=>x.e1) (fun _=>rfl)) (enters_of Tryz.func43 (by kernel_rfl) rfl)
  (fun F w x j hj v=>match j,hj with|0,_=>Iff.rfl|1,_=>Iff.rfl) 42 rfl ⟨_,Tryz.func42,rfl,rfl⟩ s (by cases s with|nil=>(cases h;simp)|cons x xs=>exact h)
section
variable (u6:List aC) (u0:Int) (u2:List aj) (u1:Int) (u3:Int) (u4:List aC)
abbrev QH:List (Nat × Option Ob):=[(138,some (cu 74 2 aC.cell u6))]
abbrev Ub:=((0:Int)<=u0/\u0<(u2.length:Int))
abbrev Yd:=(((at' u2 u0.toNat).aa).drop (Yo u1))
abbrev Lh:=(at' ((at' u2 u0.toNat).aa) u1.toNat)
abbrev VW:=(at' (Yd u0 u2 u1) u3.toNat)
abbrev Oi:=(⟨Lh u0 u2 u1,VW u0 u2 u1 u3⟩:aC)
abbrev YS:=(u4.length+[Oi u0 u2 u1 u3].length)
abbrev Xr:=(ay aC.cell [Oi u0 u2 u1 u3])
abbrev Wo:=(u4++[Oi u0 u2 u1 u3])
abbrev aaR:=(ay aC.cell (Wo u0 u2 u1 u3 u4))
end
theorem AJ (p:ah) (s_:State):gT Tryz.prog 13 (Tk s_ p) [] (fun r=>(.eZ [sD (bQ none 2 aC.cell r.1),sI r.2])) (fun _=>[]) (vG p s_):=
  jM tT mX Tryz.func13 (
  .rg {fr:=[(0,134),(1,135)],fz:=[134,135]} []<| .cl 2 (cK p s_) fun r_=> .r<| .r<| .it (.r<| .e (([]:List aC),r_))
  (.r<| .cl 2 (mU p s_) fun u2=> .r<| .im (.ad 7 268 74 2 (ay aC.cell ([]:List aC)))<| .lp (σ:=((List aC) × Int)) (β:=(List aC)) (([]:List aC),0) [] [(268,138)] ⟨[2,22,23],[],fun(u6,u0)=>[(7,vO 138 false u6.length),(24,vI u0)],fun(u6,u0)=>(QH u6)⟩ ⟨[],[],fun u5=>[(7,vO 138 false u5.length)],fun u5=>(QH u5)⟩
  (fun(u6,u0)=> .r<| .it (.a1 (Ub u0 u2)<| .rg {fr:=[(2,235)],fz:=[235]} []<| .r<| .lp (σ:=((List aC) × Int)) (β:=(List aC)) (u6,0) [] [] ⟨[2,9,22,23,24,29,30],[],fun(u7,u1)=>[(7,vO 138 false u7.length),(31,vI u1)],fun(u7,u1)=>(QH u7)⟩ ⟨[2,22,23,24],[],fun u8=>[(7,vO 138 false u8.length)],fun u8=>(QH u8)⟩
  (fun(u7,u1)=> .r<| .it (.a1 ((0:Int)<=u1/\u1<(((at' u2 u0.toNat).aa).length:Int))<| .r<| .a1 ((0:Int)<=(k4 u1)/\(k4 u1)<=(((at' u2 u0.toNat).aa).length:Int))<| .r<| .im (.us 40 (vD (.sl none 1 (((at' u2 u0.toNat).aa).length - (Yo u1)) (fun iq jq=>ay (aS .i64) ((at' u2 u0.toNat).aa) (iq+(Yo u1)) jq))) (vD (bQ none 1 (aS .i64) (Yd u0 u2 u1))) (Db.v (A7.one (su.d (o9.slN (by first|rw [cd,ea]|simp only [cJ,ea,Cx]|exact dC) (.inr rfl) (Nb _ _ _ _))))))<| .lp (σ:=((List aC) × Int)) (β:=(List aC)) (u7,0) [] [] ⟨[2,9,11,22,23,24,29,30,31,40,41],[],fun(u4,u3)=>[(7,vO 138 false u4.length),(42,vI u3)],fun(u4,u3)=>(QH u4)⟩ ⟨[2,9,22,23,24,29,30,31],[],fun u9=>[(7,vO 138 false u9.length)],fun u9=>(QH u9)⟩
  (fun(u4,u3)=> .r<| .it (.a1 ((0:Int)<=u3/\u3<((Yd u0 u2 u1).length:Int))<| .r<| .a3 ((0:Int)<=(Lh u0 u2 u1)/\(Lh u0 u2 u1)<(p.aa.length:Int)) ((gB [(decide (((at' p.aa ((Lh u0 u2 u1).toNat)).br)=0),false)]=true->(0:Int)<=(Lh u0 u2 u1)/\(Lh u0 u2 u1)<(p.aa.length:Int))) ((gB [(decide (((at' p.aa ((Lh u0 u2 u1).toNat)).br)=0),false)]=true->(0:Int)<=(VW u0 u2 u1 u3)/\(VW u0 u2 u1 u3)<(p.aa.length:Int)))<| .rg {} [0,1,2]<| .it (.a2 ((YS u0 u2 u1 u3 u4)*16<=140737488355328) (u4.length+[Oi u0 u2 u1 u3].length<=4611686018427387904)<| .rg {an:=[(4, .arr [Oi u0 u2 u1 u3].length (Xr u0 u2 u1 u3)),(5, .arr (Wo u0 u2 u1 u3 u4).length (aaR u0 u2 u1 u3 u4))],fr:=[(4,266),(5,267)]} [.pf ⟨[Oi u0 u2 u1 u3].length=1,rfl⟩, .pf ⟨aI 1 2 (kS 2 [.int .i64 (Lh u0 u2 u1),.int .i64 (VW u0 u2 u1 u3)]) (Xr u0 u2 u1 u3),(by intro i hi j hj;match i,j,hi,hj with|0,0,_,_=>rfl|0,1,_,_=>rfl)⟩, .e (u4.length),0,1, .pf ⟨(Wo u0 u2 u1 u3 u4).length=u4.length+[Oi u0 u2 u1 u3].length,cd⟩, .pf ⟨aI (YS u0 u2 u1 u3 u4) 2 (nM (ay aC.cell u4) u4.length (Xr u0 u2 u1 u3)) (aaR u0 u2 u1 u3 u4),bS _ _ _ _⟩]<| .r<| .en (.next (Wo u0 u2 u1 u3 u4,k4 u3)) [] [(267,138)])
  (.r<| .e (.next (u4,k4 u3))))
  (.e (.done (.brk u4))))
  (fun u9=> .r<| .e (.next (u9,k4 u1))))
  (.e (.done (.brk u7))))
  (fun u8=> .r<| .e (.next (u8,k4 u0))))
  (.e (.done (.brk u6))))
  (fun u5=> .cl 1 (vz [(0,138)] ⟨fun h=>xH u5 h⟩) fun v0=> .r<| .a1 (u5.length=v0.length)<| .so 7 138 false u5.length v0.length 0<| .so 77 138 false u5.length v0.length 0<| .fz [138]<| .r<| .e (v0,0))))
theorem rV (a:List Int) (b:List Int):gT Tryz.prog 46 [sD (bQ none 1 (aS .i64) a),sD (bQ none 1 (aS .i64) b)] [] (fun r=>(vB r)) (fun _=>[]) (qF a b):=
  jM tT mX Tryz.func46 (
  .r<| .r<| .it (.r<| .e false)
  (.r<| .lp (σ:=Int) (β:=Unit) (0) [] [] ⟨[0,1],[],fun i=>[(5,vI i)],fun i=>[]⟩ ⟨[],[],fun _=>[],fun _=>[]⟩
  (fun i=> .r<| .it (.a2 ((0:Int)<=i/\i<(a.length:Int)) ((0:Int)<=i/\i<(b.length:Int))<| .rg {} [0,1]<| .it (.r<| .e (.done (.ret false)))
  (.r<| .e (.next (k4 i))))
  (.e (.done (.brk ()))))
  (fun _=> .r<| .e true)))
theorem nJ (a:List aj) (b:List aj):gT Tryz.prog 15 [sD (bQ none 2 aj.cell a),sD (bQ none 2 aj.cell b)] [] (fun r=>(vB r)) (fun _=>[]) (lX a b):=
  jM tT mX Tryz.func15 (
  .r<| .r<| .it (.r<| .e false)
  (.r<| .lp (σ:=Int) (β:=Unit) (0) [] [] ⟨[0,1],[],fun i=>[(5,vI i)],fun i=>[]⟩ ⟨[],[],fun _=>[],fun _=>[]⟩
  (fun i=> .r<| .it (.cl 10 (rV ((at' a i.toNat).ae) ((at' b i.toNat).ae)) fun r_=> .cg 23 [(!r_,false)] (rV ((at' a i.toNat).aa) ((at' b i.toNat).aa)) fun u0=> .a4 (Ub i a) (Ub i b) ((gB [(!r_,false)]=true->(0:Int)<=i/\i<(a.length:Int))) ((gB [(!r_,false)]=true->(0:Int)<=i/\i<(b.length:Int)))<| .rg {} [0,1,5,2,3,4]<| .it (.r<| .e (.done (.ret false)))
  (.r<| .e (.next (k4 i))))
  (.e (.done (.brk ()))))
  (fun _=> .r<| .e true)))
theorem xV (a:List aC) (b:List aC):gT Tryz.prog 16 [sD (bQ none 2 aC.cell a),sD (bQ none 2 aC.cell b)] [] (fun r=>(vB r)) (fun _=>[]) (rZ a b):=
  jM tT mX Tryz.func16 (
  .r<| .r<| .it (.r<| .e false)
  (.r<| .lp (σ:=Int) (β:=Unit) (0) [] [] ⟨[0,1],[],fun i=>[(5,vI i)],fun i=>[]⟩ ⟨[],[],fun _=>[],fun _=>[]⟩
  (fun i=> .r<| .it (.a2 ((0:Int)<=i/\i<(a.length:Int)) ((0:Int)<=i/\i<(b.length:Int))<| .rg {} [0,1]<| .it (.r<| .e (.done (.ret false)))
  (.r<| .e (.next (k4 i))))
  (.e (.done (.brk ()))))
  (fun _=> .r<| .e true)))
theorem rU (p:ah) {r:ByteArray × Int} (h:eT p=some r):Fn Tryz.prog 23 [.agg [cI p.ae,.d (bQ none 5 Source.cell p.aa),.d (bQ none 6 Link.cell p.ac),.d (bQ none 4 aF.cell p.am)]] [] (.eZ [sD (.str r.1),sI r.2]) []:=by
 unfold eT at h;cases hc:fI p with
 |none=>rw [hc]at h;cases h
 |some c=>
  rw [hc]at h;simp only [bt]at h;cases h0:decide (c=0)with
  |false=>rw [h0]at h;simp only [bv,Option.some.injEq]at h;subst h;exact H7 (of_decide_eq_false h0) ((gX p).run hc)
  |true=>
   rw [h0]at h;have hc0:=of_decide_eq_true h0;subst hc0;simp only [bu]at h;cases h1:fmtG p.ae p.aa.length p.ac.length p.am.length (fmtS p) (OQ p) (OL p) (LB p) (OI p)with
   |false=>rw [h1]at h;cases h
   |true=>
    rw [h1]at h;simp only [bu,Option.some.injEq]at h;subst h;exact Rt (nb:=p.ae) (es:=ay Source.cell p.aa) (el:=ay Link.cell p.ac) (er:=ay aF.cell p.am) (et:=fun i=>ay aQ.cell (at' p.ac i).trip) ((gX p).run hc)
     (fun i _ j hj=>match j,hj with|0,_=>rfl|1,_=>rfl|2,_=>rfl|3,_=>rfl|4,_=>rfl)
     (fun i _ j hj=>match j,hj with|0,_=>rfl|1,_=>rfl|2,_=>rfl|3,_=>rfl|4,_=>rfl)
     (fun i _=>rfl)
     (fun i _ g _ j hj=>match j,hj with|0,_=>rfl|1,_=>rfl)
     (fun i _ j hj=>match j,hj with|0,_=>rfl|1,_=>rfl|2,_=>rfl|3,_=>rfl) h1
section
variable (n:Int)
abbrev TU:=(List.replicate n.toNat (false:Bool))
end
theorem dO (n:Int):gT Tryz.prog 100 [sI n] [] (fun r=>(vO 0 true r.length)) (fun r=>[(0,some (cu 4 1 af r))]) (dX n):=
  jM tT mX Tryz.func100 (
  .r<| .a3 ((0:Int)<=n) ((1:Int)*n<=281474976710656) ((n:Int)<=9223372036854775807)<| .rg {an:=[(1, .arr (TU n).length (ay af (TU n)))],fr:=[(1,1)]} [0, .e ((n:Int)),1,2, .pf ⟨(TU n).length=n.toNat,dC⟩, .pf ⟨aI n.toNat 1 (fun _ j=>[.bool false].getD j .nilp) (ay af (TU n)),Dl _ _ _ _ _ (fun j hj=>(match j,hj with|0,_=>rfl))⟩]<| .en (TU n) [] [(1,0)])
section
variable (p:ah) (u1:List aj) (u0:Int) (u3:Int) (u2:List Bool)
abbrev NC:=(List.replicate p.ae.toNat (false:Bool))
abbrev VU:=(ay af (NC p))
abbrev QS:=(at' ((at' u1 u0.toNat).ae) u3.toNat)
abbrev aay:=((0:Int)<=(QS u1 u0 u3)/\(QS u1 u0 u3)<(u2.length:Int))
abbrev Vs:=(u2.set ((QS u1 u0 u3).toNat) (decide (0<(((at' u1 u0.toNat).aa).length:Int))))
abbrev Vq:=(ay af (Vs u1 u0 u3 u2))
abbrev aal:=(wB (ay af u2) ((QS u1 u0 u3).toNat) 0 [.bool (decide (0<(((at' u1 u0.toNat).aa).length:Int)))])
abbrev aaI:=(Vs u1 u0 u3 u2,k4 u3)
end
theorem Eo (p:ah) (s_:State):gT Tryz.prog 101 (Tk s_ p) [] (fun r=>(.eZ [sD (bQ none 1 af r.1),sI r.2])) (fun _=>[]) (BB p s_):=
  jM tT mX Tryz.func101 (
  .rg {fr:=[(0,7),(1,8)],fz:=[7,8]} []<| .cl 2 (cK p s_) fun r_=> .r<| .r<| .it (.r<| .e (([]:List Bool),r_))
  (.a3 ((0:Int)<=p.ae) ((1:Int)*p.ae<=281474976710656) ((p.ae:Int)<=9223372036854775807)<| .rg {an:=[(2, .arr (NC p).length (VU p))],fr:=[(2,9)]} [0, .e ((p.ae:Int)),1,2, .pf ⟨(NC p).length=p.ae.toNat,dC⟩, .pf ⟨aI p.ae.toNat 1 (fun _ j=>[.bool false].getD j .nilp) (VU p),Dl _ _ _ _ _ (fun j hj=>(match j,hj with|0,_=>rfl))⟩]<| .cl 2 (mU p s_) fun u1=> .r<| .lp (σ:=((List Bool) × Int)) (β:=(List Bool)) (NC p,0) [] [] ⟨[23,24],[],fun(u4,u0)=>[(7,vO 9 true u4.length),(25,vI u0)],fun(u4,u0)=>[(9,some (cu 4 1 af u4))]⟩ ⟨[],[],fun u5=>[(7,vO 9 true u5.length)],fun u5=>[(9,some (cu 4 1 af u5))]⟩
  (fun(u4,u0)=> .r<| .it (.a1 (Ub u0 u1)<| .rg {fr:=[(2,13)]} []<| .rg {fz:=[13]} []<| .lp (σ:=((List Bool) × Int)) (β:=(List Bool)) (u4,0) [] [] ⟨[9,23,24,25,30,31],[],fun(u2,u3)=>[(7,vO 9 true u2.length),(32,vI u3)],fun(u2,u3)=>[(9,some (cu 4 1 af u2))]⟩ ⟨[23,24,25],[],fun u6=>[(7,vO 9 true u6.length)],fun u6=>[(9,some (cu 4 1 af u6))]⟩
  (fun(u2,u3)=> .r<| .it (.a1 ((0:Int)<=u3/\u3<(((at' u1 u0.toNat).ae).length:Int))<| .r<| .a1 (aay u1 u0 u3 u2)<| .rg {an:=[(7, .arr 0 (Vq u1 u0 u3 u2))]} [0, .t 0 (QS u1 u0 u3) u2.length, .pf ⟨aI u2.length 1 (aal u1 u0 u3 u2) (Vq u1 u0 u3 u2),lm _ _ _ _ _ _ _ _ rfl (fun j hj=>(match j,hj with|0,_=>rfl))⟩]<| .im (.ll 9 u2 (Vs u1 u0 u3 u2))<| .r<| .e (.next (aaI u1 u0 u3 u2)))
  (.e (.done (.brk u2))))
  (fun u6=> .r<| .e (.next (u6,k4 u0))))
  (.e (.done (.brk u4))))
  (fun u5=> .rg {fz:=[9]} []<| .e (u5,0))))
section
variable (p:ah) (u0:Int) (r_:(List Bool) × Int) (u1:List aX)
abbrev VB:List DV:=[.int .i64 (YD p u0)]
abbrev Lf:List CV:=[cI (YD p u0),cI (Yv p u0)]
abbrev aax:=((gB [(decide (0<=(YD p u0)),true)]=true->(0:Int)<=(Yz p u0).e0/\(Yz p u0).e0<(r_.1.length:Int)))
abbrev VE:List DV:=[.int .i64 (Yv p u0)]
abbrev aaK:=((gB [(decide (0<=(Yv p u0)),true)]=true->(0:Int)<=(Yz p u0).e1/\(Yz p u0).e1<(r_.1.length:Int)))
abbrev aaD:=(bif (decide (0<=(YD p u0)))then(at' r_.1 ((YD p u0).toNat))else false)
abbrev aaT:=(bif (decide (0<=(Yv p u0)))then(at' r_.1 ((Yv p u0).toNat))else false)
abbrev Ig:=(⟨aaD p u0 r_,aaT p u0 r_⟩:aX)
abbrev XC:=(u1.length+[Ig p u0 r_].length)
abbrev ZU:=((XC p u0 r_ u1)*2<=140737488355328)
abbrev Zo:=(u1.length+[Ig p u0 r_].length<=4611686018427387904)
abbrev R5:=(ay aX.cell [Ig p u0 r_])
abbrev QE:=(u1++[Ig p u0 r_])
abbrev Vt:=(ay aX.cell (QE p u0 r_ u1))
abbrev Zn:=(kS 2 [.bool (aaD p u0 r_),.bool (aaT p u0 r_)])
abbrev YL:=(nM (ay aX.cell u1) u1.length (R5 p u0 r_))
abbrev aaH:=(QE p u0 r_ u1,k4 u0)
end
theorem GZ (p:ah) (s_:State):gT Tryz.prog 56 (Tk s_ p) [] (fun r=>(.eZ [sD (bQ none 2 aX.cell r.1),sI r.2])) (fun _=>[]) (DT p s_):=
  jM tT mX Tryz.func56 (
  .rg {fr:=[(0,18),(1,19)],fz:=[19]} []<| .cl 2 (Eo p s_) fun r_=> .r<| .r<| .it (.r<| .e (([]:List aX),r_.2))
  (.r<| .r<| .im (.ad 8 36 112 2 (ay aX.cell ([]:List aX)))<| .lp (σ:=((List aX) × Int)) (β:=(List aX)) (([]:List aX),0) [] [(36,23)] ⟨[6,24,25],[],fun(u1,u0)=>[(8,vO 23 false u1.length),(26,vI u0)],fun(u1,u0)=>[(23,some (cu 112 2 aX.cell u1))]⟩ ⟨[],[],fun u2=>[(8,vO 23 false u2.length)],fun u2=>[(23,some (cu 112 2 aX.cell u2))]⟩
  (fun(u1,u0)=> .r<| .it (.a1 (k8 p u0)<| .rg {fr:=[(2,32)],fz:=[32]} []<| .rg {fr:=[(0,33)]} []<| .r<| .ul 11<| .r<| .t<| .rg {an:=[(1, .vals (VB p u0))]} [.pf ⟨(0:Int)<=0/\(0:Int)<(2:Nat),(by decide)⟩, .pf ⟨0*1+1<=(Lf p u0).length,cm rfl⟩, .pf ⟨((Lf p u0).drop (0*1)).take 1=(VB p u0).map .d,rfl⟩]<| .a1 (aax p u0 r_)<| .rg {} [0, .pf ⟨(0:Int)<=0/\(0:Int)<(2:Nat),(by decide)⟩]<| .r<| .im (.dp [6,8,11,24,25,26,31,32])<| .r<| .t<| .rg {an:=[(1, .vals (VE p u0))]} [.pf ⟨(0:Int)<=1/\(1:Int)<(2:Nat),(by decide)⟩, .pf ⟨1*1+1<=(Lf p u0).length,cm rfl⟩, .pf ⟨((Lf p u0).drop (1*1)).take 1=(VE p u0).map .d,rfl⟩]<| .a1 (aaK p u0 r_)<| .rg {} [0, .pf ⟨(0:Int)<=1/\(1:Int)<(2:Nat),(by decide)⟩]<| .r<| .im (.dp [6,8,11,24,25,26,31,32])<| .r<| .f<| .a2 (ZU p u0 r_ u1) (Zo p u0 r_ u1)<| .rg {an:=[(2, .arr [Ig p u0 r_].length (R5 p u0 r_)),(3, .arr (QE p u0 r_ u1).length (Vt p u0 r_ u1))],fr:=[(2,34),(3,35)]} [.pf ⟨[Ig p u0 r_].length=1,rfl⟩, .pf ⟨aI 1 2 (Zn p u0 r_) (R5 p u0 r_),(by intro i hi j hj;match i,j,hi,hj with|0,0,_,_=>rfl|0,1,_,_=>rfl)⟩, .e (u1.length),0,1, .pf ⟨(QE p u0 r_ u1).length=u1.length+[Ig p u0 r_].length,cd⟩, .pf ⟨aI (XC p u0 r_ u1) 2 (YL p u0 r_ u1) (Vt p u0 r_ u1),bS _ _ _ _⟩]<| .r<| .en (.next (aaH p u0 r_ u1)) [] [(35,23)])
  (.e (.done (.brk u1))))
  (fun u2=> .rg {fz:=[23]} []<| .e (u2,0))))
theorem pE (s_:List Bool) (u0:Bool):gT Tryz.prog 141 [sD (bQ (some u0) 1 af s_)] [] (fun r=>(vO 0 false r.length)) (fun r=>[(0,some (cu 4 1 af r))]) (yA s_ u0):=
  jM tT mX Tryz.func141 (
  .r<| .r<| .it (.r<| .im (.ad 2 2 4 1 (ay af ([]:List Bool)))<| .en ([]:List Bool) [] [(2,0)])
  (.a2 ((([]:List Bool).length+s_.length)*1<=140737488355328) (([]:List Bool).length+s_.length<=4611686018427387904)<| .rg {an:=[(0, .arr ([]:List Bool).length (ay af ([]:List Bool))),(2, .arr (([]:List Bool)++s_).length (ay af (([]:List Bool)++s_)))],fr:=[(0,3),(2,4)]} [.pf ⟨([]:List Bool).length=0,rfl⟩, .pf ⟨aI 0 1 (kS 1 []) (ay af ([]:List Bool)),(fun i hi=>absurd hi (cL i))⟩, .e (([]:List Bool).length),0,1, .pf ⟨(([]:List Bool)++s_).length=([]:List Bool).length+s_.length,cd⟩, .pf ⟨aI (([]:List Bool).length+s_.length) 1 (nM (ay af ([]:List Bool)) ([]:List Bool).length (ay af s_)) (ay af (([]:List Bool)++s_)),bS _ _ _ _⟩]<| .en (([]:List Bool)++s_) [] [(4,0)]))
theorem dG (s:List Bool) {r:List Bool} (h:eu s=some r):Fn Tryz.prog 141 [sD (bQ none 1 af s)] [] (vO 0 false r.length) [(0,some (cu 4 1 af r))]:=by
 refine Fn.nn (pE s true h) fun hl=> ?_;have hs:s=[]:=List.eq_nil_of_length_eq_zero hl;subst hs;exact pE [] false (by rw [<-h];kernel_rfl)
theorem xB (s_:State):gT Tryz.prog 127 [.agg (X9 s_)] [] (fun r=>(.v (.agg [.own 0 false r.a_.length,.own 1 false r.ba.length,.own 2 false r.aq.length,.own 3 false r.on_.length,.own 4 false r.ag.length,.own 5 false r.aw.length,.own 6 false r.ap.length]))) (fun r=>[(0,some (cu 4 1 af r.a_)),(1,some (cu 4 1 af r.ba)),(2,some (cu 4 1 af r.aq)),(3,some (cu 4 1 af r.on_)),(4,some (cu 4 1 af r.ag)),(5,some (cu 4 1 af r.aw)),(6,some (cu 4 1 af r.ap)),(7,none)]) (xN s_):=
  jM tT mX Tryz.func127 (
  .rg {fr:=[(0,10),(1,11)]} []<| .rg {an:=[(7, .cells)],fr:=[(7,12)]} []<| .ul 11<| .r<| .t<| .a1 ((0:Int)<=0/\0<(7:Int))<| .r<| .cl 4 (vz [(0,13)] ⟨fun h=>dG s_.a_ h⟩) fun r_=> .r<| .r<| .im (.dp [1,2,12,13,14])<| .r<| .t<| .a1 ((0:Int)<=1/\1<(7:Int))<| .r<| .cl 4 (vz [(0,14)] ⟨fun h=>dG s_.ba h⟩) fun u0=> .r<| .r<| .im (.dp [1,2,12,13,14])<| .r<| .t<| .a1 ((0:Int)<=2/\2<(7:Int))<| .r<| .cl 4 (vz [(0,15)] ⟨fun h=>dG s_.aq h⟩) fun u1=> .r<| .r<| .im (.dp [1,2,12,13,14])<| .r<| .t<| .a1 ((0:Int)<=3/\3<(7:Int))<| .r<| .cl 4 (vz [(0,16)] ⟨fun h=>dG s_.on_ h⟩) fun u2=> .r<| .r<| .im (.dp [1,2,12,13,14])<| .r<| .t<| .a1 ((0:Int)<=4/\4<(7:Int))<| .r<| .cl 4 (vz [(0,17)] ⟨fun h=>dG s_.ag h⟩) fun u3=> .r<| .r<| .im (.dp [1,2,12,13,14])<| .r<| .t<| .a1 ((0:Int)<=5/\5<(7:Int))<| .r<| .cl 4 (vz [(0,18)] ⟨fun h=>dG s_.aw h⟩) fun u4=> .r<| .r<| .im (.dp [1,2,12,13,14])<| .r<| .t<| .a1 ((0:Int)<=6/\6<(7:Int))<| .r<| .cl 4 (vz [(0,19)] ⟨fun h=>dG s_.ap h⟩) fun u5=> .r<| .r<| .im (.dp [1,2,12,13,14])<| .r<| .f<| .r<| .en (⟨r_,u0,u1,u2,u3,u4,u5⟩:State) [] [(13,0),(14,1),(15,2),(16,3),(17,4),(18,5),(19,6),(11,7)])
end
end Sg
