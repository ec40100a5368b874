import Derived.Test.YtcafpngcflplgaaGreatDoorTeGm
import Derived.Test.YtcafpngcflplgaaGreatDoorProg
import Derived.Test.YtcafpngcflplgaaGreatDoorTeLg
set_option linter.all false
namespace Sg
open Go Go.Proofs
set_option maxRecDepth 20000
noncomputable section
abbrev Je (a b:TypeInfo) (e:Bool):TI:=⟨a.desc,b.size,b.bytes,zl b,e⟩
abbrev wQ (a:TypeInfo):TI:=Je a a false
noncomputable def TT:List (Nat × TI):=[(2,wQ Tryz.t2),
  (3,wQ Tryz.t3),
  (4,wQ Tryz.t4),
  (5,wQ Tryz.t5),
  (9,wQ Tryz.t9),
  (21,wQ Tryz.t21),
  (22,wQ Tryz.t22),
  (23,wQ Tryz.t23),
  (24,wQ Tryz.t24),
  (25,wQ Tryz.t25),
  (27,Je Tryz.t26 Tryz.t27 false),
  (31,Je Tryz.t3 Tryz.t31 false),
  (33,wQ Tryz.t33),
  (35,Je Tryz.t34 Tryz.t35 false),
  (40,wQ Tryz.t40),
  (43,wQ Tryz.t43),
  (46,wQ Tryz.t46),
  (53,wQ Tryz.t53),
  (57,wQ Tryz.t57),
  (65,Je Tryz.t3 Tryz.t65 false),
  (67,Je Tryz.t66 Tryz.t67 true),
  (68,Je Tryz.t3 Tryz.t68 false),
  (70,Je Tryz.t69 Tryz.t70 true),
  (71,wQ Tryz.t71),
  (73,Je Tryz.t72 Tryz.t73 false),
  (74,Je Tryz.t74 Tryz.t74 true),
  (76,Je Tryz.t75 Tryz.t76 true),
  (79,wQ Tryz.t79),
  (82,wQ Tryz.t82),
  (85,wQ Tryz.t85),
  (92,Je Tryz.t91 Tryz.t92 false),
  (94,Je Tryz.t91 Tryz.t94 false),
  (109,wQ Tryz.t109),
  (112,Je Tryz.t112 Tryz.t112 true),
  (114,Je Tryz.t3 Tryz.t114 false),
  (116,Je Tryz.t115 Tryz.t116 true),
  (128,wQ Tryz.t128),
  (131,wQ Tryz.t131),
  (137,wQ Tryz.t137),
  (140,wQ Tryz.t140),
  (141,wQ Tryz.t141),
  (144,wQ Tryz.t144),
  (153,wQ Tryz.t153),
  (154,wQ Tryz.t154),
  (155,wQ Tryz.t155),
  (157,Je Tryz.t156 Tryz.t157 false),
  (166,wQ Tryz.t166),
  (174,Je Tryz.t174 Tryz.t174 true),
  (196,wQ Tryz.t196),
  (198,wQ Tryz.t198),
  (200,wQ Tryz.t200),
  (207,wQ Tryz.t207),
  (222,wQ Tryz.t222),
  (224,Je Tryz.t224 Tryz.t224 true),
  (237,Je Tryz.t237 Tryz.t237 true)]
theorem tT:lC Tryz.prog TT:=⟨fE,⟨iI,cZ⟩,fE,⟨iI,cZ⟩,fE,⟨iI,cZ⟩,fE,⟨iI,cZ⟩,fE,⟨iI,cZ⟩,fE,⟨iI,cZ⟩,fE,⟨iI,cZ⟩,fE,⟨iI,cZ⟩,fE,⟨iI,cZ⟩,fE,⟨iI,cZ⟩,fE,⟨iI,cZ⟩,fE,⟨iI,cZ⟩,fE,⟨iI,cZ⟩,fE,⟨iI,cZ⟩,fE,⟨iI,cZ⟩,fE,⟨iI,cZ⟩,fE,⟨iI,cZ⟩,fE,⟨iI,cZ⟩,fE,⟨iI,cZ⟩,fE,⟨iI,cZ⟩,fE,⟨fun _=> ⟨by kernel_rfl,by kernel_rfl⟩,cZ⟩,fE,⟨iI,cZ⟩,fE,⟨fun _=> ⟨by kernel_rfl,by kernel_rfl⟩,cZ⟩,fE,⟨iI,cZ⟩,fE,⟨iI,cZ⟩,fE,⟨fun _=> ⟨by kernel_rfl,by kernel_rfl⟩,cZ⟩,fE,⟨fun _=> ⟨by kernel_rfl,by kernel_rfl⟩,cZ⟩,fE,⟨iI,cZ⟩,fE,⟨iI,cZ⟩,fE,⟨iI,cZ⟩,fE,⟨iI,cZ⟩,fE,⟨iI,cZ⟩,fE,⟨iI,cZ⟩,fE,⟨fun _=> ⟨by kernel_rfl,by kernel_rfl⟩,cZ⟩,fE,⟨iI,cZ⟩,fE,⟨fun _=> ⟨by kernel_rfl,by kernel_rfl⟩,cZ⟩,fE,⟨iI,cZ⟩,fE,⟨iI,cZ⟩,fE,⟨iI,cZ⟩,fE,⟨iI,cZ⟩,fE,⟨iI,cZ⟩,fE,⟨iI,cZ⟩,fE,⟨iI,cZ⟩,fE,⟨iI,cZ⟩,fE,⟨iI,cZ⟩,fE,⟨iI,cZ⟩,fE,⟨iI,cZ⟩,fE,⟨fun _=> ⟨by kernel_rfl,by kernel_rfl⟩,cZ⟩,fE,⟨iI,cZ⟩,fE,⟨iI,cZ⟩,fE,⟨iI,cZ⟩,fE,⟨iI,cZ⟩,fE,⟨iI,cZ⟩,fE,⟨fun _=> ⟨by kernel_rfl,by kernel_rfl⟩,cZ⟩,fE,⟨fun _=> ⟨by kernel_rfl,by kernel_rfl⟩,cZ⟩,trivial⟩
theorem mX:Tryz.prog.follows .mixedOrders=true:=by kernel_rfl
def J8:Go.Shelf.Ren:=⟨fun|6=>42|14=>89|15=>90|20=>111|21=>112|22=>113|23=>114|24=>115|25=>116|26=>117|27=>118|28=>119|29=>120|46=>134|47=>135|48=>136|49=>137|50=>138|57=>153|n=>n,fun|0=>0|3=>3|4=>4|5=>5|9=>9|22=>46|24=>74|25=>97|39=>166|45=>189|46=>190|50=>163|53=>196|55=>198|66=>213|70=>217|76=>231|77=>232|n=>n,fun n=>n⟩
theorem R6:Go.Proofs.SlLaysF0.n6 Tryz.prog J8:=⟨by kernel_rfl,⟨Tryz.f42.name,by kernel_rfl,Tryz.func42.trans (congrArg some (by kernel_rfl))⟩,⟨Tryz.f89.name,by kernel_rfl,Tryz.func89.trans (congrArg some (by kernel_rfl))⟩,Tryz.func90.trans (congrArg some (by kernel_rfl)),⟨Tryz.f111.name,by kernel_rfl,Tryz.func111.trans (congrArg some (by kernel_rfl))⟩,⟨Tryz.f112.name,by kernel_rfl,Tryz.func112.trans (congrArg some (by kernel_rfl))⟩,⟨Tryz.f113.name,by kernel_rfl,Tryz.func113.trans (congrArg some (by kernel_rfl))⟩,⟨Tryz.f114.name,by kernel_rfl,Tryz.func114.trans (congrArg some (by kernel_rfl))⟩,⟨Tryz.f115.name,by kernel_rfl,Tryz.func115.trans (congrArg some (by kernel_rfl))⟩,⟨Tryz.f116.name,by kernel_rfl,Tryz.func116.trans (congrArg some (by kernel_rfl))⟩,⟨Tryz.f117.name,by kernel_rfl,Tryz.func117.trans (congrArg some (by kernel_rfl))⟩,⟨Tryz.f118.name,by kernel_rfl,Tryz.func118.trans (congrArg some (by kernel_rfl))⟩,Tryz.func119.trans (congrArg some (by kernel_rfl)),Tryz.func120.trans (congrArg some (by kernel_rfl)),⟨Tryz.f134.name,by kernel_rfl,Tryz.func134.trans (congrArg some (by kernel_rfl))⟩,Tryz.func135.trans (congrArg some (by kernel_rfl)),Tryz.func136.trans (congrArg some (by kernel_rfl)),⟨Tryz.f137.name,by kernel_rfl,Tryz.func137.trans (congrArg some (by kernel_rfl))⟩,⟨Tryz.f138.name,by kernel_rfl,Tryz.func138.trans (congrArg some (by kernel_rfl))⟩,⟨Tryz.f153.name,by kernel_rfl,Tryz.func153.trans (congrArg some (by kernel_rfl))⟩,Tryz.underlying0,Tryz.isAgg0,Tryz.sizeOf0,Tryz.zeroValue0,Tryz.underlying3,Tryz.isAgg3,Tryz.sizeOf3,Tryz.zeroValue3,Tryz.underlying4,Tryz.isAgg4,Tryz.sizeOf4,Tryz.zeroValue4,Tryz.underlying5,Tryz.isAgg5,Tryz.sizeOf5,Tryz.zeroValue5,Tryz.underlying9,Tryz.isAgg9,Tryz.sizeOf9,Tryz.zeroValue9,Tryz.underlying46,Tryz.isAgg46,Tryz.sizeOf46,Tryz.zeroValue46,Tryz.underlying97,Tryz.isAgg97,Tryz.sizeOf97,Tryz.zeroValue97,Tryz.underlying166,Tryz.isAgg166,Tryz.sizeOf166,Tryz.zeroValue166,Tryz.underlying189,Tryz.isAgg189,Tryz.sizeOf189,Tryz.zeroValue189,Tryz.underlying190,Tryz.isAgg190,Tryz.sizeOf190,Tryz.zeroValue190,Tryz.underlying163,Tryz.isAgg163,Tryz.sizeOf163,Tryz.zeroValue163,Tryz.underlying196,Tryz.isAgg196,Tryz.sizeOf196,Tryz.zeroValue196,Tryz.underlying198,Tryz.isAgg198,Tryz.sizeOf198,Tryz.zeroValue198,Tryz.underlying213,Tryz.isAgg213,Tryz.sizeOf213,Tryz.zeroValue213,Tryz.underlying217,Tryz.isAgg217,Tryz.sizeOf217,Tryz.zeroValue217,Tryz.underlying231,Tryz.isAgg231,Tryz.sizeOf231,Tryz.zeroValue231,Tryz.underlying232,Tryz.isAgg232,Tryz.sizeOf232,Tryz.zeroValue232⟩
theorem U4 (w:World):(isAgg (J8.t 24)).run Tryz.prog w= .ok true w:=Tryz.isAgg74 w
theorem RO (w:World):(Go.sizeOf (J8.t 24)).run Tryz.prog w= .ok 2 w:=Tryz.sizeOf74 w
section
variable (p:ah) (x:Link) (i:Int)
abbrev k0:List CV:=[cI p.ae,.d (bQ none 5 Source.cell p.aa),.d (bQ none 6 Link.cell p.ac),.d (bQ none 4 aF.cell p.am)]
abbrev k1:List CV:=[cI x.a,cI x.b,cI x.kind,cI x.most,cI x.ohm,.d (bQ none 2 aQ.cell x.trip)]
abbrev k2:=(IntKind.wrap .i64 (i - 1))
abbrev k3:=(decide (((at' x.trip i.toNat).bp)<=((at' x.trip ((k2 i).toNat)).bp)),false)
abbrev k4:=(IntKind.wrap .i64 (i+1))
end
theorem EB (p:ah) (x:Link):gT Tryz.prog 36 [.agg (k0 p),.agg (k1 x)] [] (fun r=>(vB r)) (fun _=>[]) (qh p x):=
  jM tT mX Tryz.func36 (
  .rg {fr:=[(0,6),(1,7)],fz:=[6]} []<| .r<| .it (.r<| .e false)
  (.r<| .it (.r<| .e false)
  (.r<| .lp (σ:=Int) (β:=Unit) (0) [] [] ⟨[3],[7],fun i=>[(5,vI i)],fun i=>[]⟩ ⟨[],[],fun _=>[],fun _=>[]⟩
  (fun i=> .r<| .it (.a1 ((0:Int)<=i/\i<(x.trip.length:Int))<| .rg {fr:=[(5,11)],fz:=[11]} []<| .r<| .it (.r<| .e (.done (.ret false)))
  (.a2 ((gB [(decide (0<i),true)]=true->(0:Int)<=(k2 i)/\(k2 i)<(x.trip.length:Int))) ((gB [k3 x i,(decide (0<i),true)]=true->(0:Int)<=(k2 i)/\(k2 i)<(x.trip.length:Int)))<| .rg {} [0,1]<| .it (.r<| .e (.done (.ret false)))
  (.r<| .e (.next (k4 i)))))
  (.e (.done (.brk ()))))
  (fun _=> .r<| .e true))))
section
variable (p:ah) (i:Int) (i1:Int) (i2:Int)
abbrev k5:List SV:=[.agg (k0 p)]
abbrev k6:=((0:Int)<=i/\i<(p.aa.length:Int))
abbrev k7:=((0:Int)<=i1/\i1<(p.ac.length:Int))
abbrev k8:=((0:Int)<=i2/\i2<(p.am.length:Int))
end
theorem lJ (p:ah):gT Tryz.prog 9 (k5 p) [] (fun r=>(vI r)) (fun _=>[]) (gM p):=
  jM tT mX Tryz.func9 (
  .rg {fr:=[(0,9)]} []<| .r<| .it (.r<| .e 10)
  (.r<| .it (.r<| .e 11)
  (.r<| .lp (σ:=Int) (β:=Unit) (0) [] [] ⟨[1],[9],fun i=>[(3,vI i)],fun i=>[]⟩ ⟨[1],[9],fun _=>[],fun _=>[]⟩
  (fun i=> .r<| .it (.a1 (k6 p i)<| .rg {fr:=[(5,13)],fz:=[13]} []<| .r<| .it (.r<| .e (.done (.ret 11)))
  (.r<| .e (.next (k4 i))))
  (.e (.done (.brk ()))))
  (fun _=> .r<| .it (.r<| .e 12)
  (.r<| .lp (σ:=Int) (β:=Unit) (0) [] [] ⟨[1],[9],fun i1=>[(5,vI i1)],fun i1=>[]⟩ ⟨[1],[9],fun _=>[],fun _=>[]⟩
  (fun i1=> .r<| .it (.cl 6 (EB p (at' p.ac i1.toNat)) fun r_=> .a1 (k7 p i1)<| .rg {} [0,1]<| .it (.r<| .e (.done (.ret 12)))
  (.r<| .e (.next (k4 i1))))
  (.e (.done (.brk ()))))
  (fun _=> .r<| .it (.r<| .e 13)
  (.r<| .lp (σ:=Int) (β:=Unit) (0) [] [] ⟨[1],[9],fun i2=>[(6,vI i2)],fun i2=>[]⟩ ⟨[],[],fun _=>[],fun _=>[]⟩
  (fun i2=> .r<| .it (.a1 (k8 p i2)<| .rg {fr:=[(5,17)],fz:=[17]} []<| .rg {} [.pf ⟨(0:Int)<=0/\(0:Int)<(2:Nat),(by decide)⟩, .pf ⟨(0:Int)<=1/\(1:Int)<(2:Nat),(by decide)⟩]<| .r<| .r<| .it (.r<| .r<| .it (.r<| .e (.done (.ret 13)))
  (.r<| .e (.next (k4 i2))))
  (.r<| .it (.r<| .e (.done (.ret 13)))
  (.r<| .e (.next (k4 i2)))))
  (.e (.done (.brk ()))))
  (fun _=> .r<| .e 0))))))))
section
variable (kz:Int)
abbrev k9:=(IntKind.wrap .u8 (IntKind.wrap .i64 ((48:Int)+(IntKind.wrap .i64 (0 - (Int.tmod kz 10))))))
abbrev k10:=(DU [k9 kz])
abbrev k11:=(ay (aS .u8) [k9 kz])
abbrev k12:=(IntKind.wrap .u8 (IntKind.wrap .i64 ((48:Int)+(Int.tmod kz 10))))
abbrev k13:=(ay (aS .u8) [k12 kz])
end
theorem aO (n:Int):gT Tryz.prog 47 [sI n] [] (fun r=>(vD (.str r))) (fun _=>[]) (aV n):=
  jM tT mX Tryz.func47 (
  .r<| .r<| .it (.r<| .e ⟨#[48]⟩)
  (.r<| .r<| .lp (σ:=(ByteArray × Int)) (β:=ByteArray) (⟨#[]⟩,n) [] [] ⟨[0],[],fun(s_,kz)=>[(3,vD (.str s_)),(4,vI kz)],fun(s_,kz)=>[]⟩ ⟨[0],[],fun u0=>[(3,vD (.str u0))],fun u0=>[]⟩
  (fun(s_,kz)=> .r<| .it (.a1 (10≠(0:Int))<| .r<| .r<| .it (.r<| .a2 (([k9 kz].map (DV.int .u8)).all Ce=true) ((k10 kz).size+s_.size<=9223372036854775807)<| .rg {an:=[(3, .frz [k9 kz].length (k11 kz)),(4, .vals ([k9 kz].map (DV.int .u8)))]} [.pf ⟨[k9 kz].length=1,rfl⟩, .pf ⟨aI 1 1 (kS 1 [.int .u8 (k9 kz)]) (k11 kz),(by intro i hi j hj;match i,j,hi,hj with|0,0,_,_=>rfl)⟩, .pf ⟨0<[k9 kz].length,Nat.succ_pos _⟩, .pf ⟨[k9 kz].length=([k9 kz].map (DV.int .u8)).length,(dt _).symm⟩, .pf ⟨aI [k9 kz].length 1 (k11 kz) (fun i _=>([k9 kz].map (DV.int .u8)).getD i .nilp),Ec [k9 kz]⟩,0,1]<| .a1 (10≠(0:Int))<| .r<| .e (.next (ax (k10 kz) s_,IntKind.wrap .i64 (Int.tdiv kz 10))))
  (.a2 (([k12 kz].map (DV.int .u8)).all Ce=true) ((DU [k12 kz]).size+s_.size<=9223372036854775807)<| .rg {an:=[(3, .frz [k12 kz].length (k13 kz)),(4, .vals ([k12 kz].map (DV.int .u8)))]} [.pf ⟨[k12 kz].length=1,rfl⟩, .pf ⟨aI 1 1 (kS 1 [.int .u8 (k12 kz)]) (k13 kz),(by intro i hi j hj;match i,j,hi,hj with|0,0,_,_=>rfl)⟩, .pf ⟨0<[k12 kz].length,Nat.succ_pos _⟩, .pf ⟨[k12 kz].length=([k12 kz].map (DV.int .u8)).length,(dt _).symm⟩, .pf ⟨aI [k12 kz].length 1 (k13 kz) (fun i _=>([k12 kz].map (DV.int .u8)).getD i .nilp),Ec [k12 kz]⟩,0,1]<| .a1 (10≠(0:Int))<| .r<| .e (.next (ax (DU [k12 kz]) s_,IntKind.wrap .i64 (Int.tdiv kz 10)))))
  (.e (.done (.brk s_))))
  (fun u0=> .r<| .it (.a1 ((⟨#[45]⟩:ByteArray).size+u0.size<=9223372036854775807)<| .r<| .r<| .e (ax ⟨#[45]⟩ u0))
  (.r<| .e u0))))
theorem bX:gT Tryz.prog 48 [] [] (fun r=>(vD (bQ none 1 dh r))) (fun _=>[]) (bU):=
  jM tT mX Tryz.func48 (
  .r<| .rg {an:=[(0, .arr [(⟨#[]⟩:ByteArray),⟨#[103,114,105,100]⟩,⟨#[103,101,110,101,114,97,116,111,114]⟩,⟨#[98,97,116,116,101,114,121]⟩].length (ay dh [(⟨#[]⟩:ByteArray),⟨#[103,114,105,100]⟩,⟨#[103,101,110,101,114,97,116,111,114]⟩,⟨#[98,97,116,116,101,114,121]⟩]))],fr:=[(0,1)],fz:=[1]} [.pf ⟨[(⟨#[]⟩:ByteArray),⟨#[103,114,105,100]⟩,⟨#[103,101,110,101,114,97,116,111,114]⟩,⟨#[98,97,116,116,101,114,121]⟩].length=4,rfl⟩, .pf ⟨aI 4 1 (kS 1 [.str ⟨#[]⟩,.str ⟨#[103,114,105,100]⟩,.str ⟨#[103,101,110,101,114,97,116,111,114]⟩,.str ⟨#[98,97,116,116,101,114,121]⟩]) (ay dh [(⟨#[]⟩:ByteArray),⟨#[103,114,105,100]⟩,⟨#[103,101,110,101,114,97,116,111,114]⟩,⟨#[98,97,116,116,101,114,121]⟩]),(by intro i hi j hj;match i,j,hi,hj with|0,0,_,_=>rfl|1,0,_,_=>rfl|2,0,_,_=>rfl|3,0,_,_=>rfl)⟩]<| .e [(⟨#[]⟩:ByteArray),⟨#[103,114,105,100]⟩,⟨#[103,101,110,101,114,97,116,111,114]⟩,⟨#[98,97,116,116,101,114,121]⟩])
theorem dD:gT Tryz.prog 49 [] [] (fun r=>(vD (bQ none 1 dh r))) (fun _=>[]) (dB):=
  jM tT mX Tryz.func49 (
  .r<| .rg {an:=[(0, .arr [(⟨#[]⟩:ByteArray),⟨#[99,97,98,108,101]⟩,⟨#[115,119,105,116,99,104]⟩,⟨#[98,114,101,97,107,101,114]⟩].length (ay dh [(⟨#[]⟩:ByteArray),⟨#[99,97,98,108,101]⟩,⟨#[115,119,105,116,99,104]⟩,⟨#[98,114,101,97,107,101,114]⟩]))],fr:=[(0,1)],fz:=[1]} [.pf ⟨[(⟨#[]⟩:ByteArray),⟨#[99,97,98,108,101]⟩,⟨#[115,119,105,116,99,104]⟩,⟨#[98,114,101,97,107,101,114]⟩].length=4,rfl⟩, .pf ⟨aI 4 1 (kS 1 [.str ⟨#[]⟩,.str ⟨#[99,97,98,108,101]⟩,.str ⟨#[115,119,105,116,99,104]⟩,.str ⟨#[98,114,101,97,107,101,114]⟩]) (ay dh [(⟨#[]⟩:ByteArray),⟨#[99,97,98,108,101]⟩,⟨#[115,119,105,116,99,104]⟩,⟨#[98,114,101,97,107,101,114]⟩]),(by intro i hi j hj;match i,j,hi,hj with|0,0,_,_=>rfl|1,0,_,_=>rfl|2,0,_,_=>rfl|3,0,_,_=>rfl)⟩]<| .e [(⟨#[]⟩:ByteArray),⟨#[99,97,98,108,101]⟩,⟨#[115,119,105,116,99,104]⟩,⟨#[98,114,101,97,107,101,114]⟩])
section
variable (t:ByteArray) (u0:ByteArray) (u1:List ByteArray) (p:ah) (i:Int) (u5:ByteArray) (u8:ByteArray) (v1:ByteArray) (t2:ByteArray) (u2:ByteArray) (u4:ByteArray) (u6:List ByteArray) (i1:Int) (v0:ByteArray) (i2:Int) (t6:ByteArray) (u3:ByteArray) (u7:ByteArray) (u9:ByteArray) (v2:ByteArray)
abbrev k14:=(ax (ax t ⟨#[115,111,117,114,99,101,32]⟩) u0)
abbrev k15:=(ax (k14 t u0) ⟨#[32]⟩)
abbrev k16:=(ax (k15 t u0) (at' u1 (((at' p.aa i.toNat).kind).toNat)))
abbrev k17:=(ax (k16 t u0 u1 p i) ⟨#[32]⟩)
abbrev k18:=(ax (k17 t u0 u1 p i) u5)
abbrev k19:=(ax (k18 t u0 u1 p i u5) ⟨#[32]⟩)
abbrev k20:=(ax (k19 t u0 u1 p i u5) u8)
abbrev k21:=(ax (k20 t u0 u1 p i u5 u8) ⟨#[32]⟩)
abbrev k22:=(ax (k21 t u0 u1 p i u5 u8) v1)
abbrev k23:=(ax (ax (ax t2 ⟨#[108,105,110,107,32]⟩) u2) ⟨#[32]⟩)
abbrev k24:=(ax (k23 t2 u2) u4)
abbrev k25:=(ax (k24 t2 u2 u4) ⟨#[32]⟩)
abbrev k26:=(ax (k25 t2 u2 u4) (at' u6 (((at' p.ac i1.toNat).kind).toNat)))
abbrev k27:=(ax (k26 p t2 u2 u4 u6 i1) ⟨#[32]⟩)
abbrev k28:=(ax (k27 p t2 u2 u4 u6 i1) v0)
abbrev k29:=(ax (k28 p t2 u2 u4 u6 i1 v0) ⟨#[32]⟩)
abbrev Yz:=((at' p.am i2.toNat).bh)
abbrev YD:=((Yz p i2).e0)
abbrev Yv:=((Yz p i2).e1)
abbrev k33:=(ax (ax (ax t6 ⟨#[114,97,99,107,32]⟩) u3) ⟨#[32]⟩)
abbrev k34:=(ax (k33 t6 u3) u7)
abbrev k35:=(ax (k34 t6 u3 u7) ⟨#[32]⟩)
abbrev k36:=(ax (k35 t6 u3 u7) u9)
abbrev k37:=(ax (k36 t6 u3 u7 u9) ⟨#[32]⟩)
abbrev k38:=(ax (k37 t6 u3 u7 u9) v2)
end
theorem BS (p:ah):gT Tryz.prog 17 (k5 p) [] (fun r=>(.eZ [sD (.str r.1),sI r.2])) (fun _=>[]) (iw p):=
  jM tT mX Tryz.func17 (
  .rg {fr:=[(0,13)]} []<| .cl 1 (lJ p) fun r_=> .r<| .r<| .it (.r<| .e (⟨#[]⟩,r_))
  (.cl 2 (aO p.ae) fun v4=> .a2 ((⟨#[112,108,97,110,116,32]⟩:ByteArray).size+v4.size<=9223372036854775807) ((ax ⟨#[112,108,97,110,116,32]⟩ v4).size+(⟨#[10]⟩:ByteArray).size<=9223372036854775807)<| .rg {} [2,0,1]<| .r<| .lp (σ:=(ByteArray × Int)) (β:=ByteArray) (ax (ax ⟨#[112,108,97,110,116,32]⟩ v4) ⟨#[10]⟩,0) [] [] ⟨[1],[13],fun(t,i)=>[(5,vD (.str t)),(6,vI i)],fun(t,i)=>[]⟩ ⟨[1],[13],fun t1=>[(5,vD (.str t1))],fun t1=>[]⟩
  (fun(t,i)=> .r<| .it (.a1 (k6 p i)<| .rg {fr:=[(5,17)],fz:=[17]} []<| .cl 4 (aO ((at' p.aa i.toNat).bus)) fun u0=> .cl 7 bX fun u1=> .cl 16 (aO ((at' p.aa i.toNat).power)) fun u5=> .cl 21 (aO ((at' p.aa i.toNat).br)) fun u8=> .cl 26 (aO ((at' p.aa i.toNat).ohm)) fun v1=> .as _ inferInstance [t.size+(⟨#[115,111,117,114,99,101,32]⟩:ByteArray).size<=9223372036854775807,(ax t ⟨#[115,111,117,114,99,101,32]⟩).size+u0.size<=9223372036854775807,(k14 t u0).size+(⟨#[32]⟩:ByteArray).size<=9223372036854775807,(0:Int)<=(at' p.aa i.toNat).kind/\(at' p.aa i.toNat).kind<(u1.length:Int),(k15 t u0).size+(at' u1 (((at' p.aa i.toNat).kind).toNat)).size<=9223372036854775807,(k16 t u0 u1 p i).size+(⟨#[32]⟩:ByteArray).size<=9223372036854775807,(k17 t u0 u1 p i).size+u5.size<=9223372036854775807,(k18 t u0 u1 p i u5).size+(⟨#[32]⟩:ByteArray).size<=9223372036854775807,(k19 t u0 u1 p i u5).size+u8.size<=9223372036854775807,(k20 t u0 u1 p i u5 u8).size+(⟨#[32]⟩:ByteArray).size<=9223372036854775807,(k21 t u0 u1 p i u5 u8).size+v1.size<=9223372036854775807,(k22 t u0 u1 p i u5 u8 v1).size+(⟨#[10]⟩:ByteArray).size<=9223372036854775807] (fun h=> ⟨h.1,h.2.1,h.2.2.1,h.2.2.2.1,h.2.2.2.2.1,h.2.2.2.2.2.1,h.2.2.2.2.2.2.1,h.2.2.2.2.2.2.2.1,h.2.2.2.2.2.2.2.2.1,h.2.2.2.2.2.2.2.2.2.1,h.2.2.2.2.2.2.2.2.2.2.1,h.2.2.2.2.2.2.2.2.2.2.2,trivial⟩:((t.size+(⟨#[115,111,117,114,99,101,32]⟩:ByteArray).size<=9223372036854775807)/\((ax t ⟨#[115,111,117,114,99,101,32]⟩).size+u0.size<=9223372036854775807)/\((k14 t u0).size+(⟨#[32]⟩:ByteArray).size<=9223372036854775807)/\((0:Int)<=(at' p.aa i.toNat).kind/\(at' p.aa i.toNat).kind<(u1.length:Int))/\((k15 t u0).size+(at' u1 (((at' p.aa i.toNat).kind).toNat)).size<=9223372036854775807)/\((k16 t u0 u1 p i).size+(⟨#[32]⟩:ByteArray).size<=9223372036854775807)/\((k17 t u0 u1 p i).size+u5.size<=9223372036854775807)/\((k18 t u0 u1 p i u5).size+(⟨#[32]⟩:ByteArray).size<=9223372036854775807)/\((k19 t u0 u1 p i u5).size+u8.size<=9223372036854775807)/\((k20 t u0 u1 p i u5 u8).size+(⟨#[32]⟩:ByteArray).size<=9223372036854775807)/\((k21 t u0 u1 p i u5 u8).size+v1.size<=9223372036854775807)/\((k22 t u0 u1 p i u5 u8 v1).size+(⟨#[10]⟩:ByteArray).size<=9223372036854775807))->_)<| .rg {} [0,16,1,2,15,3,4,5,14,6,7,13,8,9,12,10,11]<| .r<| .e (.next (ax (k22 t u0 u1 p i u5 u8 v1) ⟨#[10]⟩,k4 i)))
  (.e (.done (.brk t))))
  (fun t1=> .r<| .lp (σ:=(ByteArray × Int)) (β:=ByteArray) (t1,0) [] [] ⟨[1],[13],fun(t2,i1)=>[(5,vD (.str t2)),(8,vI i1)],fun(t2,i1)=>[]⟩ ⟨[1],[13],fun t3=>[(5,vD (.str t3))],fun t3=>[]⟩
  (fun(t2,i1)=> .r<| .it (.a1 (k7 p i1)<| .rg {fr:=[(5,21)],fz:=[21]} []<| .cl 4 (aO ((at' p.ac i1.toNat).a)) fun u2=> .cl 9 (aO ((at' p.ac i1.toNat).b)) fun u4=> .cl 12 dD fun u6=> .cl 21 (aO ((at' p.ac i1.toNat).most)) fun v0=> .cl 26 (aO ((at' p.ac i1.toNat).ohm)) fun v5=> .as _ inferInstance [t2.size+(⟨#[108,105,110,107,32]⟩:ByteArray).size<=9223372036854775807,(ax t2 ⟨#[108,105,110,107,32]⟩).size+u2.size<=9223372036854775807,(ax (ax t2 ⟨#[108,105,110,107,32]⟩) u2).size+(⟨#[32]⟩:ByteArray).size<=9223372036854775807,(k23 t2 u2).size+u4.size<=9223372036854775807,(k24 t2 u2 u4).size+(⟨#[32]⟩:ByteArray).size<=9223372036854775807,(0:Int)<=(at' p.ac i1.toNat).kind/\(at' p.ac i1.toNat).kind<(u6.length:Int),(k25 t2 u2 u4).size+(at' u6 (((at' p.ac i1.toNat).kind).toNat)).size<=9223372036854775807,(k26 p t2 u2 u4 u6 i1).size+(⟨#[32]⟩:ByteArray).size<=9223372036854775807,(k27 p t2 u2 u4 u6 i1).size+v0.size<=9223372036854775807,(k28 p t2 u2 u4 u6 i1 v0).size+(⟨#[32]⟩:ByteArray).size<=9223372036854775807,(k29 p t2 u2 u4 u6 i1 v0).size+v5.size<=9223372036854775807] (fun h=> ⟨h.1,h.2.1,h.2.2.1,h.2.2.2.1,h.2.2.2.2.1,h.2.2.2.2.2.1,h.2.2.2.2.2.2.1,h.2.2.2.2.2.2.2.1,h.2.2.2.2.2.2.2.2.1,h.2.2.2.2.2.2.2.2.2.1,h.2.2.2.2.2.2.2.2.2.2,trivial⟩:((t2.size+(⟨#[108,105,110,107,32]⟩:ByteArray).size<=9223372036854775807)/\((ax t2 ⟨#[108,105,110,107,32]⟩).size+u2.size<=9223372036854775807)/\((ax (ax t2 ⟨#[108,105,110,107,32]⟩) u2).size+(⟨#[32]⟩:ByteArray).size<=9223372036854775807)/\((k23 t2 u2).size+u4.size<=9223372036854775807)/\((k24 t2 u2 u4).size+(⟨#[32]⟩:ByteArray).size<=9223372036854775807)/\((0:Int)<=(at' p.ac i1.toNat).kind/\(at' p.ac i1.toNat).kind<(u6.length:Int))/\((k25 t2 u2 u4).size+(at' u6 (((at' p.ac i1.toNat).kind).toNat)).size<=9223372036854775807)/\((k26 p t2 u2 u4 u6 i1).size+(⟨#[32]⟩:ByteArray).size<=9223372036854775807)/\((k27 p t2 u2 u4 u6 i1).size+v0.size<=9223372036854775807)/\((k28 p t2 u2 u4 u6 i1 v0).size+(⟨#[32]⟩:ByteArray).size<=9223372036854775807)/\((k29 p t2 u2 u4 u6 i1 v0).size+v5.size<=9223372036854775807))->_)<| .rg {} [0,15,1,2,14,3,4,13,5,6,7,12,8,9,11,10]<| .r<| .lp (σ:=(ByteArray × Int)) (β:=ByteArray) (ax (k29 p t2 u2 u4 u6 i1 v0) v5,0) [] [] ⟨[1,8,9],[13],fun(t4,kz)=>[(5,vD (.str t4)),(10,vI kz)],fun(t4,kz)=>[]⟩ ⟨[1,8],[13],fun t5=>[(5,vD (.str t5))],fun t5=>[]⟩
  (fun(t4,kz)=> .r<| .it (.cl 8 (aO ((at' ((at' p.ac i1.toNat).trip) kz.toNat).bp)) fun v3=> .cl 17 (aO ((at' ((at' p.ac i1.toNat).trip) kz.toNat).bi)) fun v6=> .a5 (t4.size+(⟨#[32]⟩:ByteArray).size<=9223372036854775807) ((0:Int)<=kz/\kz<(((at' p.ac i1.toNat).trip).length:Int)) ((ax t4 ⟨#[32]⟩).size+v3.size<=9223372036854775807) ((ax (ax t4 ⟨#[32]⟩) v3).size+(⟨#[58]⟩:ByteArray).size<=9223372036854775807) ((ax (ax (ax t4 ⟨#[32]⟩) v3) ⟨#[58]⟩).size+v6.size<=9223372036854775807)<| .rg {} [0,1,6,2,3,1,5,4]<| .r<| .e (.next (ax (ax (ax (ax t4 ⟨#[32]⟩) v3) ⟨#[58]⟩) v6,k4 kz)))
  (.e (.done (.brk t4))))
  (fun t5=> .a1 (t5.size+(⟨#[10]⟩:ByteArray).size<=9223372036854775807)<| .r<| .r<| .e (.next (ax t5 ⟨#[10]⟩,k4 i1))))
  (.e (.done (.brk t2))))
  (fun t3=> .r<| .lp (σ:=(ByteArray × Int)) (β:=ByteArray) (t3,0) [] [] ⟨[1],[13],fun(t6,i2)=>[(5,vD (.str t6)),(11,vI i2)],fun(t6,i2)=>[]⟩ ⟨[],[],fun t7=>[(5,vD (.str t7))],fun t7=>[]⟩
  (fun(t6,i2)=> .r<| .it (.a1 (k8 p i2)<| .rg {fr:=[(5,25)],fz:=[25]} []<| .cl 5 (aO (YD p i2)) fun u3=> .cl 11 (aO (Yv p i2)) fun u7=> .cl 16 (aO ((at' p.am i2.toNat).power)) fun u9=> .cl 21 (aO ((at' p.am i2.toNat).bk)) fun v2=> .as _ inferInstance [t6.size+(⟨#[114,97,99,107,32]⟩:ByteArray).size<=9223372036854775807,(ax t6 ⟨#[114,97,99,107,32]⟩).size+u3.size<=9223372036854775807,(ax (ax t6 ⟨#[114,97,99,107,32]⟩) u3).size+(⟨#[32]⟩:ByteArray).size<=9223372036854775807,(k33 t6 u3).size+u7.size<=9223372036854775807,(k34 t6 u3 u7).size+(⟨#[32]⟩:ByteArray).size<=9223372036854775807,(k35 t6 u3 u7).size+u9.size<=9223372036854775807,(k36 t6 u3 u7 u9).size+(⟨#[32]⟩:ByteArray).size<=9223372036854775807,(k37 t6 u3 u7 u9).size+v2.size<=9223372036854775807,(k38 t6 u3 u7 u9 v2).size+(⟨#[10]⟩:ByteArray).size<=9223372036854775807] (fun h=> ⟨h.1,h.2.1,h.2.2.1,h.2.2.2.1,h.2.2.2.2.1,h.2.2.2.2.2.1,h.2.2.2.2.2.2.1,h.2.2.2.2.2.2.2.1,h.2.2.2.2.2.2.2.2,trivial⟩:((t6.size+(⟨#[114,97,99,107,32]⟩:ByteArray).size<=9223372036854775807)/\((ax t6 ⟨#[114,97,99,107,32]⟩).size+u3.size<=9223372036854775807)/\((ax (ax t6 ⟨#[114,97,99,107,32]⟩) u3).size+(⟨#[32]⟩:ByteArray).size<=9223372036854775807)/\((k33 t6 u3).size+u7.size<=9223372036854775807)/\((k34 t6 u3 u7).size+(⟨#[32]⟩:ByteArray).size<=9223372036854775807)/\((k35 t6 u3 u7).size+u9.size<=9223372036854775807)/\((k36 t6 u3 u7 u9).size+(⟨#[32]⟩:ByteArray).size<=9223372036854775807)/\((k37 t6 u3 u7 u9).size+v2.size<=9223372036854775807)/\((k38 t6 u3 u7 u9 v2).size+(⟨#[10]⟩:ByteArray).size<=9223372036854775807))->_)<| .rg {} [0, .pf ⟨(0:Int)<=0/\(0:Int)<(2:Nat),(by decide)⟩,12,1,2, .pf ⟨(0:Int)<=1/\(1:Int)<(2:Nat),(by decide)⟩,11,3,4,10,5,6,9,7,8]<| .r<| .e (.next (ax (k38 t6 u3 u7 u9 v2) ⟨#[10]⟩,k4 i2)))
  (.e (.done (.brk t6))))
  (fun t7=> .r<| .e (t7,0))))))
theorem aN (n:Int) (u0:Int) (u1:Int):gT Tryz.prog 29 [sI n,sI u0,sI u1] [] (fun r=>(vB r)) (fun _=>[]) (aU n u0 u1):=
  jM tT mX Tryz.func29 (
  .r<| .r<| .e (bif (decide (u0<=n))then(decide (n<=u1))else false))
theorem BM (p:ah):gT Tryz.prog 31 (k5 p) [] (fun r=>(vD (.fn 77 1 (zX [RG [.int .i64 r.1,bQ none 5 Source.cell r.2.1,bQ none 6 Link.cell r.2.2.1,bQ none 4 aF.cell r.2.2.2] 0])))) (fun _=>[]) (qP p):=
  jM tT mX Tryz.func31 (
  .rg {fr:=[(0,1)],fz:=[1]} []<| .r<| .e (p.ae,p.aa,p.ac,p.am))
theorem Eh (p:ah):gT Tryz.prog 33 (k5 p) [] (fun r=>(vD (.fn 80 1 (zX [RG [.int .i64 r.1,bQ none 5 Source.cell r.2.1,bQ none 6 Link.cell r.2.2.1,bQ none 4 aF.cell r.2.2.2] 0])))) (fun _=>[]) (vF p):=
  jM tT mX Tryz.func33 (
  .rg {fr:=[(0,1)],fz:=[1]} []<| .r<| .e (p.ae,p.aa,p.ac,p.am))
theorem EF (p:ah):gT Tryz.prog 35 (k5 p) [] (fun r=>(vD (.fn 83 1 (zX [RG [.int .i64 r.1,bQ none 5 Source.cell r.2.1,bQ none 6 Link.cell r.2.2.1,bQ none 4 aF.cell r.2.2.2] 0])))) (fun _=>[]) (uS p):=
  jM tT mX Tryz.func35 (
  .rg {fr:=[(0,1)],fz:=[1]} []<| .r<| .e (p.ae,p.aa,p.ac,p.am))
section
variable (x1:Int) (u2:List Source) (u3:List Link) (u4:List aF) (r_:Bool) (u0:Bool) (u1:Bool) (u5:Bool) (u6:Bool)
abbrev YE:DV:=(RG [.int .i64 x1,bQ none 5 Source.cell u2,bQ none 6 Link.cell u3,bQ none 4 aF.cell u4] 0)
abbrev k40:=(bif (bif (bif (bif r_ then u0 else false)then u1 else false)then u5 else false)then u6 else false)
end
theorem yU (x:Source) (x1:Int) (u2:List Source) (u3:List Link) (u4:List aF):gT Tryz.prog 77 [.agg [cI x.bus,cI x.kind,cI x.power,cI x.br,cI x.ohm],sD (YE x1 u2 u3 u4)] [] (fun r=>(vB r)) (fun _=>[]) (lH x x1 u2 u3 u4):=
  jM tT mX Tryz.func77 (
  .rg {fr:=[(0,1)],fz:=[1]} []<| .cl 5 (aN x.bus 0 (k2 x1)) fun r_=> .cg 9 [(r_,true)] (aN x.kind 1 3) fun u0=> .cg 14 [((bif r_ then u0 else false),true)] (aN x.power 1 100000) fun u1=> .cg 19 [((bif (bif r_ then u0 else false)then u1 else false),true)] (aN x.br 0 8) fun u5=> .cg 24 [((bif (bif (bif r_ then u0 else false)then u1 else false)then u5 else false),true)] (aN x.ohm 10 100000) fun u6=> .r<| .e (k40 r_ u0 u1 u5 u6))
section
variable (x1:Int) (u0:List Source) (u1:List Link) (u2:List aF)
abbrev Yt:=(zX [YE x1 u0 u1 u2])
abbrev k41:DV:=(RG [.fn 77 1 (Yt x1 u0 u1 u2)] 0)
end
theorem Cw (x:Source) (x1:Int) (u0:List Source) (u1:List Link) (u2:List aF):gT Tryz.prog 76 [.agg [cI x.bus,cI x.kind,cI x.power,cI x.br,cI x.ohm],sD (k41 x1 u0 u1 u2)] [] (fun r=>(vB r)) (fun _=>[]) (qX x x1 u0 u1 u2):=
  jM tT mX Tryz.func76 (
  .rg {fr:=[(0,1)],fz:=[1]} []<| .cl 2 (yU x x1 u0 u1 u2) fun r_=> .r<| .e (!r_))
section
variable (s_:List Source) (f_:Int) (u0:List Source) (u1:List Link) (u2:List aF)
abbrev k43:List SV:=[sD (bQ none 5 Source.cell s_),sD (.fn 76 1 (zX [k41 f_ u0 u1 u2]))]
end
theorem wK (s_:List Source) (f_:Int) (u0:List Source) (u1:List Link) (u2:List aF):gT Tryz.prog 107 (k43 s_ f_ u0 u1 u2) [] (fun r=>(vI r)) (fun _=>[]) (mQ s_ f_ u0 u1 u2):=
  jM tT mX Tryz.func107 (
  .r<| .r<| .lp (σ:=Int) (β:=Unit) (0) [] [] ⟨[0,1,7],[],fun t8=>[(8,vI t8)],fun t8=>[]⟩ ⟨[],[],fun _=>[],fun _=>[]⟩
  (fun t8=> .r<| .it (.r<| .cl 5 (Cw (at' s_ t8.toNat) f_ u0 u1 u2) fun r_=> .a1 ((0:Int)<=t8/\t8<(s_.length:Int))<| .rg {} [0,1]<| .it (.r<| .e (.done (.ret t8)))
  (.r<| .e (.next (k4 t8))))
  (.e (.done (.brk ()))))
  (fun _=> .r<| .e (-1)))
theorem sQ (s_:List Source) (f_:Int) (u0:List Source) (u1:List Link) (u2:List aF):gT Tryz.prog 75 (k43 s_ f_ u0 u1 u2) [] (fun r=>(vB r)) (fun _=>[]) (iD s_ f_ u0 u1 u2):=
  jM tT mX Tryz.func75 (
  .r<| .cl 2 (wK s_ f_ u0 u1 u2) fun r_=> .r<| .e (decide (0<=r_)))
theorem EA (l:List Source) (u0:Int) (u1:Int) (u2:List Source) (u3:List Link) (u4:List aF):gT Tryz.prog 30 [sD (bQ none 5 Source.cell l),sI u0,sD (.fn 77 1 (Yt u1 u2 u3 u4))] [] (fun r=>(vB r)) (fun _=>[]) (qm l u0 u1 u2 u3 u4):=
  jM tT mX Tryz.func30 (
  .rg {fr:=[(0,1)],fz:=[1]} []<| .cg 7 [(decide ((l.length:Int)<=u0),true)] (sQ l u1 u2 u3 u4) fun r_=> .r<| .e (bif (decide ((l.length:Int)<=u0))then(!r_)else false))
theorem Cf (x:Link) (x1:Int) (u3:List Source) (u4:List Link) (u5:List aF):gT Tryz.prog 80 [.agg (k1 x),sD (YE x1 u3 u4 u5)] [] (fun r=>(vB r)) (fun _=>[]) (nO x x1 u3 u4 u5):=
  jM tT mX Tryz.func80 (
  .rg {fr:=[(0,5)]} []<| .cl 5 (aN x.a 0 (k2 x1)) fun r_=> .cg 13 [(!r_,false)] (aN x.b 0 (k2 x1)) fun u1=> .cg 26 [((bif (bif (!r_)then true else(!u1))then true else(decide (x.a=x.b))),false)] (aN x.kind 1 3) fun u6=> .cg 32 [((bif (bif (bif (!r_)then true else(!u1))then true else(decide (x.a=x.b)))then true else(!u6)),false)] (aN x.most 1 100000) fun u8=> .cg 38 [((bif (bif (bif (bif (!r_)then true else(!u1))then true else(decide (x.a=x.b)))then true else(!u6))then true else(!u8)),false)] (aN x.ohm 10 100000) fun u9=> .r<| .it (.r<| .e false)
  (.rg {fz:=[5]} []<| .lp (σ:=Int) (β:=Unit) (0) [] [] ⟨[2,48,49],[],fun u0=>[(50,vI u0)],fun u0=>[]⟩ ⟨[2],[],fun _=>[],fun _=>[]⟩
  (fun u0=> .r<| .it (.a1 ((0:Int)<=u0/\u0<(x.trip.length:Int))<| .rg {fr:=[(3,9)],fz:=[9]} []<| .cl 2 (aN ((at' x.trip u0.toNat).bp) 1 1000000) fun u2=> .cg 7 [(!u2,false)] (aN ((at' x.trip u0.toNat).bi) 1 100000) fun u7=> .a2 ((gB [(decide (0<u0),true),((bif (!u2)then true else(!u7)),false)]=true->(0:Int)<=(k2 u0)/\(k2 u0)<(x.trip.length:Int))) ((gB [k3 x u0,(decide (0<u0),true),((bif (!u2)then true else(!u7)),false)]=true->(0:Int)<=(k2 u0)/\(k2 u0)<(x.trip.length:Int)))<| .rg {} [3,2,0,1]<| .it (.r<| .e (.done (.ret false)))
  (.r<| .e (.next (k4 u0))))
  (.e (.done (.brk ()))))
  (fun _=> .r<| .e (bif (decide ((x.trip.length:Int)<=6))then(bif (decide ((x.trip.length:Int)=0))then true else(decide (x.kind=3)))else false))))
section
variable (x1:Int) (u0:List Source) (u1:List Link) (u2:List aF)
abbrev k44:DV:=(RG [.fn 80 1 (Yt x1 u0 u1 u2)] 0)
end
theorem yg (x:Link) (x1:Int) (u0:List Source) (u1:List Link) (u2:List aF):gT Tryz.prog 79 [.agg (k1 x),sD (k44 x1 u0 u1 u2)] [] (fun r=>(vB r)) (fun _=>[]) (nU x x1 u0 u1 u2):=
  jM tT mX Tryz.func79 (
  .rg {fr:=[(0,1)],fz:=[1]} []<| .cl 2 (Cf x x1 u0 u1 u2) fun r_=> .r<| .e (!r_))
section
variable (s_:List Link) (f_:Int) (u0:List Source) (u1:List Link) (u2:List aF) (t8:Int)
abbrev k45:List SV:=[sD (bQ none 6 Link.cell s_),sD (.fn 79 1 (zX [k44 f_ u0 u1 u2]))]
abbrev k46:=((0:Int)<=t8/\t8<(s_.length:Int))
end
theorem sO (s_:List Link) (f_:Int) (u0:List Source) (u1:List Link) (u2:List aF):gT Tryz.prog 108 (k45 s_ f_ u0 u1 u2) [] (fun r=>(vI r)) (fun _=>[]) (kJ s_ f_ u0 u1 u2):=
  jM tT mX Tryz.func108 (
  .r<| .r<| .lp (σ:=Int) (β:=Unit) (0) [] [] ⟨[0,1,7],[],fun t8=>[(8,vI t8)],fun t8=>[]⟩ ⟨[],[],fun _=>[],fun _=>[]⟩
  (fun t8=> .r<| .it (.r<| .cl 5 (yg (at' s_ t8.toNat) f_ u0 u1 u2) fun r_=> .a1 (k46 s_ t8)<| .rg {} [0,1]<| .it (.r<| .e (.done (.ret t8)))
  (.r<| .e (.next (k4 t8))))
  (.e (.done (.brk ()))))
  (fun _=> .r<| .e (-1)))
theorem ql (s_:List Link) (f_:Int) (u0:List Source) (u1:List Link) (u2:List aF):gT Tryz.prog 78 (k45 s_ f_ u0 u1 u2) [] (fun r=>(vB r)) (fun _=>[]) (fH s_ f_ u0 u1 u2):=
  jM tT mX Tryz.func78 (
  .r<| .cl 2 (sO s_ f_ u0 u1 u2) fun r_=> .r<| .e (decide (0<=r_)))
theorem BN (l:List Link) (u0:Int) (u1:Int) (u2:List Source) (u3:List Link) (u4:List aF):gT Tryz.prog 32 [sD (bQ none 6 Link.cell l),sI u0,sD (.fn 80 1 (Yt u1 u2 u3 u4))] [] (fun r=>(vB r)) (fun _=>[]) (nZ l u0 u1 u2 u3 u4):=
  jM tT mX Tryz.func32 (
  .rg {fr:=[(0,1)],fz:=[1]} []<| .cg 7 [(decide ((l.length:Int)<=u0),true)] (ql l u1 u2 u3 u4) fun r_=> .r<| .e (bif (decide ((l.length:Int)<=u0))then(!r_)else false))
section
variable (x:aF)
abbrev k47:List CV:=[cI x.bh.e0,cI x.bh.e1,cI x.power,cI x.bk]
end
theorem DL (x:aF):gT Tryz.prog 84 [.agg (k47 x)] [] (fun r=>(vI r)) (fun _=>[]) (pq x):=
  jM tT mX Tryz.func84 (
  .rg {fr:=[(0,1)],fz:=[1]} []<| .rg {} [.pf ⟨(0:Int)<=1/\(1:Int)<(2:Nat),(by decide)⟩]<| .it (.r<| .e 1)
  (.r<| .e 2))
section
variable (r_:Bool) (u0:Bool) (x:aF) (u1:Bool)
abbrev k49:=(bif (bif (bif r_ then u0 else false)then(!decide (x.bh.e0=x.bh.e1))else false)then u1 else false)
abbrev k48:=(k49 r_ u0 x u1,true)
end
theorem BO (x:aF) (x1:Int) (u2:List Source) (u3:List Link) (u4:List aF):gT Tryz.prog 83 [.agg (k47 x),sD (YE x1 u2 u3 u4)] [] (fun r=>(vB r)) (fun _=>[]) (nQ x x1 u2 u3 u4):=
  jM tT mX Tryz.func83 (
  .rg {fr:=[(0,1)],fz:=[1]} []<| .rg {} [.pf ⟨(0:Int)<=0/\(0:Int)<(2:Nat),(by decide)⟩, .pf ⟨(0:Int)<=1/\(1:Int)<(2:Nat),(by decide)⟩]<| .cl 4 (aN x.bh.e0 0 (k2 x1)) fun r_=> .cg 10 [(r_,true)] (aN x.bh.e1 (-1) (k2 x1)) fun u0=> .cg 20 [((bif (bif r_ then u0 else false)then(!decide (x.bh.e0=x.bh.e1))else false),true)] (aN x.power 1 100000) fun u1=> .cg 26 [k48 r_ u0 x u1] (DL x) fun u5=> .cg 27 [k48 r_ u0 x u1] (aN x.bk 0 u5) fun u6=> .r<| .e (bif (k49 r_ u0 x u1)then u6 else false))
section
variable (x1:Int) (u0:List Source) (u1:List Link) (u2:List aF)
abbrev k50:DV:=(RG [.fn 83 1 (Yt x1 u0 u1 u2)] 0)
end
theorem wT (x:aF) (x1:Int) (u0:List Source) (u1:List Link) (u2:List aF):gT Tryz.prog 82 [.agg (k47 x),sD (k50 x1 u0 u1 u2)] [] (fun r=>(vB r)) (fun _=>[]) (nH x x1 u0 u1 u2):=
  jM tT mX Tryz.func82 (
  .rg {fr:=[(0,1)],fz:=[1]} []<| .cl 2 (BO x x1 u0 u1 u2) fun r_=> .r<| .e (!r_))
section
variable (s_:List aF) (f_:Int) (u0:List Source) (u1:List Link) (u2:List aF)
abbrev k51:List SV:=[sD (bQ none 4 aF.cell s_),sD (.fn 82 1 (zX [k50 f_ u0 u1 u2]))]
end
theorem sM (s_:List aF) (f_:Int) (u0:List Source) (u1:List Link) (u2:List aF):gT Tryz.prog 109 (k51 s_ f_ u0 u1 u2) [] (fun r=>(vI r)) (fun _=>[]) (kM s_ f_ u0 u1 u2):=
  jM tT mX Tryz.func109 (
  .r<| .r<| .lp (σ:=Int) (β:=Unit) (0) [] [] ⟨[0,1,7],[],fun t8=>[(8,vI t8)],fun t8=>[]⟩ ⟨[],[],fun _=>[],fun _=>[]⟩
  (fun t8=> .r<| .it (.r<| .cl 5 (wT (⟨(at' s_ t8.toNat).bh,(at' s_ t8.toNat).power,(at' s_ t8.toNat).bk⟩:aF) f_ u0 u1 u2) fun r_=> .a1 ((0:Int)<=t8/\t8<(s_.length:Int))<| .rg {} [0,1]<| .it (.r<| .e (.done (.ret t8)))
  (.r<| .e (.next (k4 t8))))
  (.e (.done (.brk ()))))
  (fun _=> .r<| .e (-1)))
theorem qi (s_:List aF) (f_:Int) (u0:List Source) (u1:List Link) (u2:List aF):gT Tryz.prog 81 (k51 s_ f_ u0 u1 u2) [] (fun r=>(vB r)) (fun _=>[]) (fJ s_ f_ u0 u1 u2):=
  jM tT mX Tryz.func81 (
  .r<| .cl 2 (sM s_ f_ u0 u1 u2) fun r_=> .r<| .e (decide (0<=r_)))
theorem Bt (l:List aF) (u0:Int) (u1:Int) (u2:List Source) (u3:List Link) (u4:List aF):gT Tryz.prog 34 [sD (bQ none 4 aF.cell l),sI u0,sD (.fn 83 1 (Yt u1 u2 u3 u4))] [] (fun r=>(vB r)) (fun _=>[]) (nX l u0 u1 u2 u3 u4):=
  jM tT mX Tryz.func34 (
  .rg {fr:=[(0,1)],fz:=[1]} []<| .cg 7 [(decide ((l.length:Int)<=u0),true)] (qi l u1 u2 u3 u4) fun r_=> .r<| .e (bif (decide ((l.length:Int)<=u0))then(!r_)else false))
theorem gX (p:ah):gT Tryz.prog 8 (k5 p) [] (fun r=>(vI r)) (fun _=>[]) (fI p):=
  jM tT mX Tryz.func8 (
  .rg {fr:=[(0,1)],fz:=[1]} []<| .cl 2 (aN p.ae 1 24) fun r_=> .r<| .it (.r<| .e 10)
  (.cl 3 (BM p) fun u0=> .cl 4 (EA p.aa 8 u0.1 u0.2.1 u0.2.2.1 u0.2.2.2) fun u3=> .r<| .it (.r<| .e 11)
  (.cl 3 (Eh p) fun u1=> .cl 4 (BN p.ac 40 u1.1 u1.2.1 u1.2.2.1 u1.2.2.2) fun u4=> .r<| .it (.r<| .e 12)
  (.cl 3 (EF p) fun u2=> .cl 4 (Bt p.am 24 u2.1 u2.2.1 u2.2.2.1 u2.2.2.2) fun u5=> .r<| .it (.r<| .e 13)
  (.r<| .e 0)))))
theorem uU:gT Tryz.prog 63 [] [] (fun r=>(.v (.one (.mp 0)))) (fun r=>[(0,some (Nf 9 65 false false 1 1 dh (aS .i64) r))]) (lW):=
  jM tT mX Tryz.func63 (
  .r<| .rg {an:=[(0, .map 0 (lY dh ([]:(List (ByteArray × Int)))) (mE (aS .i64) ([]:(List (ByteArray × Int)))) []),(1, .map (aD bB ⟨#[103,114,105,100]⟩ 1 ([]:(List (ByteArray × Int)))).length (lY dh (aD bB ⟨#[103,114,105,100]⟩ 1 ([]:(List (ByteArray × Int))))) (mE (aS .i64) (aD bB ⟨#[103,114,105,100]⟩ 1 ([]:(List (ByteArray × Int))))) []),(2, .map (aD bB ⟨#[103,101,110,101,114,97,116,111,114]⟩ 2 (aD bB ⟨#[103,114,105,100]⟩ 1 ([]:(List (ByteArray × Int))))).length (lY dh (aD bB ⟨#[103,101,110,101,114,97,116,111,114]⟩ 2 (aD bB ⟨#[103,114,105,100]⟩ 1 ([]:(List (ByteArray × Int)))))) (mE (aS .i64) (aD bB ⟨#[103,101,110,101,114,97,116,111,114]⟩ 2 (aD bB ⟨#[103,114,105,100]⟩ 1 ([]:(List (ByteArray × Int)))))) []),(3, .map (aD bB ⟨#[98,97,116,116,101,114,121]⟩ 3 (aD bB ⟨#[103,101,110,101,114,97,116,111,114]⟩ 2 (aD bB ⟨#[103,114,105,100]⟩ 1 ([]:(List (ByteArray × Int)))))).length (lY dh (aD bB ⟨#[98,97,116,116,101,114,121]⟩ 3 (aD bB ⟨#[103,101,110,101,114,97,116,111,114]⟩ 2 (aD bB ⟨#[103,114,105,100]⟩ 1 ([]:(List (ByteArray × Int))))))) (mE (aS .i64) (aD bB ⟨#[98,97,116,116,101,114,121]⟩ 3 (aD bB ⟨#[103,101,110,101,114,97,116,111,114]⟩ 2 (aD bB ⟨#[103,114,105,100]⟩ 1 ([]:(List (ByteArray × Int))))))) [])],fr:=[(0,1)]} [.pf ⟨jH [.s] 1 1 ([]:(List (ByteArray × Int))).length (lY dh ([]:(List (ByteArray × Int)))) (mE (aS .i64) ([]:(List (ByteArray × Int)))) [.str ⟨#[103,114,105,100]⟩] [cI 1] [] (aD bB ⟨#[103,114,105,100]⟩ 1 ([]:(List (ByteArray × Int)))).length (lY dh (aD bB ⟨#[103,114,105,100]⟩ 1 ([]:(List (ByteArray × Int))))) (mE (aS .i64) (aD bB ⟨#[103,114,105,100]⟩ 1 ([]:(List (ByteArray × Int))))),jL (fun _=>rfl) (fun _ _=>rfl) ([]:(List (ByteArray × Int))) ⟨#[103,114,105,100]⟩ 1 rfl rfl⟩, .pf ⟨jH [.s] 1 1 (aD bB ⟨#[103,114,105,100]⟩ 1 ([]:(List (ByteArray × Int)))).length (lY dh (aD bB ⟨#[103,114,105,100]⟩ 1 ([]:(List (ByteArray × Int))))) (mE (aS .i64) (aD bB ⟨#[103,114,105,100]⟩ 1 ([]:(List (ByteArray × Int))))) [.str ⟨#[103,101,110,101,114,97,116,111,114]⟩] [cI 2] [] (aD bB ⟨#[103,101,110,101,114,97,116,111,114]⟩ 2 (aD bB ⟨#[103,114,105,100]⟩ 1 ([]:(List (ByteArray × Int))))).length (lY dh (aD bB ⟨#[103,101,110,101,114,97,116,111,114]⟩ 2 (aD bB ⟨#[103,114,105,100]⟩ 1 ([]:(List (ByteArray × Int)))))) (mE (aS .i64) (aD bB ⟨#[103,101,110,101,114,97,116,111,114]⟩ 2 (aD bB ⟨#[103,114,105,100]⟩ 1 ([]:(List (ByteArray × Int)))))),jL (fun _=>rfl) (fun _ _=>rfl) (aD bB ⟨#[103,114,105,100]⟩ 1 ([]:(List (ByteArray × Int)))) ⟨#[103,101,110,101,114,97,116,111,114]⟩ 2 rfl rfl⟩, .pf ⟨jH [.s] 1 1 (aD bB ⟨#[103,101,110,101,114,97,116,111,114]⟩ 2 (aD bB ⟨#[103,114,105,100]⟩ 1 ([]:(List (ByteArray × Int))))).length (lY dh (aD bB ⟨#[103,101,110,101,114,97,116,111,114]⟩ 2 (aD bB ⟨#[103,114,105,100]⟩ 1 ([]:(List (ByteArray × Int)))))) (mE (aS .i64) (aD bB ⟨#[103,101,110,101,114,97,116,111,114]⟩ 2 (aD bB ⟨#[103,114,105,100]⟩ 1 ([]:(List (ByteArray × Int)))))) [.str ⟨#[98,97,116,116,101,114,121]⟩] [cI 3] [] (aD bB ⟨#[98,97,116,116,101,114,121]⟩ 3 (aD bB ⟨#[103,101,110,101,114,97,116,111,114]⟩ 2 (aD bB ⟨#[103,114,105,100]⟩ 1 ([]:(List (ByteArray × Int)))))).length (lY dh (aD bB ⟨#[98,97,116,116,101,114,121]⟩ 3 (aD bB ⟨#[103,101,110,101,114,97,116,111,114]⟩ 2 (aD bB ⟨#[103,114,105,100]⟩ 1 ([]:(List (ByteArray × Int))))))) (mE (aS .i64) (aD bB ⟨#[98,97,116,116,101,114,121]⟩ 3 (aD bB ⟨#[103,101,110,101,114,97,116,111,114]⟩ 2 (aD bB ⟨#[103,114,105,100]⟩ 1 ([]:(List (ByteArray × Int))))))),jL (fun _=>rfl) (fun _ _=>rfl) (aD bB ⟨#[103,101,110,101,114,97,116,111,114]⟩ 2 (aD bB ⟨#[103,114,105,100]⟩ 1 ([]:(List (ByteArray × Int))))) ⟨#[98,97,116,116,101,114,121]⟩ 3 rfl rfl⟩]<| .en (aD bB ⟨#[98,97,116,116,101,114,121]⟩ 3 (aD bB ⟨#[103,101,110,101,114,97,116,111,114]⟩ 2 (aD bB ⟨#[103,114,105,100]⟩ 1 ([]:(List (ByteArray × Int)))))) [] [(1,0)])
theorem yx:gT Tryz.prog 65 [] [] (fun r=>(.v (.one (.mp 0)))) (fun r=>[(0,some (Nf 9 68 false false 1 1 dh (aS .i64) r))]) (nL):=
  jM tT mX Tryz.func65 (
  .r<| .rg {an:=[(0, .map 0 (lY dh ([]:(List (ByteArray × Int)))) (mE (aS .i64) ([]:(List (ByteArray × Int)))) []),(1, .map (aD bB ⟨#[99,97,98,108,101]⟩ 1 ([]:(List (ByteArray × Int)))).length (lY dh (aD bB ⟨#[99,97,98,108,101]⟩ 1 ([]:(List (ByteArray × Int))))) (mE (aS .i64) (aD bB ⟨#[99,97,98,108,101]⟩ 1 ([]:(List (ByteArray × Int))))) []),(2, .map (aD bB ⟨#[115,119,105,116,99,104]⟩ 2 (aD bB ⟨#[99,97,98,108,101]⟩ 1 ([]:(List (ByteArray × Int))))).length (lY dh (aD bB ⟨#[115,119,105,116,99,104]⟩ 2 (aD bB ⟨#[99,97,98,108,101]⟩ 1 ([]:(List (ByteArray × Int)))))) (mE (aS .i64) (aD bB ⟨#[115,119,105,116,99,104]⟩ 2 (aD bB ⟨#[99,97,98,108,101]⟩ 1 ([]:(List (ByteArray × Int)))))) []),(3, .map (aD bB ⟨#[98,114,101,97,107,101,114]⟩ 3 (aD bB ⟨#[115,119,105,116,99,104]⟩ 2 (aD bB ⟨#[99,97,98,108,101]⟩ 1 ([]:(List (ByteArray × Int)))))).length (lY dh (aD bB ⟨#[98,114,101,97,107,101,114]⟩ 3 (aD bB ⟨#[115,119,105,116,99,104]⟩ 2 (aD bB ⟨#[99,97,98,108,101]⟩ 1 ([]:(List (ByteArray × Int))))))) (mE (aS .i64) (aD bB ⟨#[98,114,101,97,107,101,114]⟩ 3 (aD bB ⟨#[115,119,105,116,99,104]⟩ 2 (aD bB ⟨#[99,97,98,108,101]⟩ 1 ([]:(List (ByteArray × Int))))))) [])],fr:=[(0,1)]} [.pf ⟨jH [.s] 1 1 ([]:(List (ByteArray × Int))).length (lY dh ([]:(List (ByteArray × Int)))) (mE (aS .i64) ([]:(List (ByteArray × Int)))) [.str ⟨#[99,97,98,108,101]⟩] [cI 1] [] (aD bB ⟨#[99,97,98,108,101]⟩ 1 ([]:(List (ByteArray × Int)))).length (lY dh (aD bB ⟨#[99,97,98,108,101]⟩ 1 ([]:(List (ByteArray × Int))))) (mE (aS .i64) (aD bB ⟨#[99,97,98,108,101]⟩ 1 ([]:(List (ByteArray × Int))))),jL (fun _=>rfl) (fun _ _=>rfl) ([]:(List (ByteArray × Int))) ⟨#[99,97,98,108,101]⟩ 1 rfl rfl⟩, .pf ⟨jH [.s] 1 1 (aD bB ⟨#[99,97,98,108,101]⟩ 1 ([]:(List (ByteArray × Int)))).length (lY dh (aD bB ⟨#[99,97,98,108,101]⟩ 1 ([]:(List (ByteArray × Int))))) (mE (aS .i64) (aD bB ⟨#[99,97,98,108,101]⟩ 1 ([]:(List (ByteArray × Int))))) [.str ⟨#[115,119,105,116,99,104]⟩] [cI 2] [] (aD bB ⟨#[115,119,105,116,99,104]⟩ 2 (aD bB ⟨#[99,97,98,108,101]⟩ 1 ([]:(List (ByteArray × Int))))).length (lY dh (aD bB ⟨#[115,119,105,116,99,104]⟩ 2 (aD bB ⟨#[99,97,98,108,101]⟩ 1 ([]:(List (ByteArray × Int)))))) (mE (aS .i64) (aD bB ⟨#[115,119,105,116,99,104]⟩ 2 (aD bB ⟨#[99,97,98,108,101]⟩ 1 ([]:(List (ByteArray × Int)))))),jL (fun _=>rfl) (fun _ _=>rfl) (aD bB ⟨#[99,97,98,108,101]⟩ 1 ([]:(List (ByteArray × Int)))) ⟨#[115,119,105,116,99,104]⟩ 2 rfl rfl⟩, .pf ⟨jH [.s] 1 1 (aD bB ⟨#[115,119,105,116,99,104]⟩ 2 (aD bB ⟨#[99,97,98,108,101]⟩ 1 ([]:(List (ByteArray × Int))))).length (lY dh (aD bB ⟨#[115,119,105,116,99,104]⟩ 2 (aD bB ⟨#[99,97,98,108,101]⟩ 1 ([]:(List (ByteArray × Int)))))) (mE (aS .i64) (aD bB ⟨#[115,119,105,116,99,104]⟩ 2 (aD bB ⟨#[99,97,98,108,101]⟩ 1 ([]:(List (ByteArray × Int)))))) [.str ⟨#[98,114,101,97,107,101,114]⟩] [cI 3] [] (aD bB ⟨#[98,114,101,97,107,101,114]⟩ 3 (aD bB ⟨#[115,119,105,116,99,104]⟩ 2 (aD bB ⟨#[99,97,98,108,101]⟩ 1 ([]:(List (ByteArray × Int)))))).length (lY dh (aD bB ⟨#[98,114,101,97,107,101,114]⟩ 3 (aD bB ⟨#[115,119,105,116,99,104]⟩ 2 (aD bB ⟨#[99,97,98,108,101]⟩ 1 ([]:(List (ByteArray × Int))))))) (mE (aS .i64) (aD bB ⟨#[98,114,101,97,107,101,114]⟩ 3 (aD bB ⟨#[115,119,105,116,99,104]⟩ 2 (aD bB ⟨#[99,97,98,108,101]⟩ 1 ([]:(List (ByteArray × Int))))))),jL (fun _=>rfl) (fun _ _=>rfl) (aD bB ⟨#[115,119,105,116,99,104]⟩ 2 (aD bB ⟨#[99,97,98,108,101]⟩ 1 ([]:(List (ByteArray × Int))))) ⟨#[98,114,101,97,107,101,114]⟩ 3 rfl rfl⟩]<| .en (aD bB ⟨#[98,114,101,97,107,101,114]⟩ 3 (aD bB ⟨#[115,119,105,116,99,104]⟩ 2 (aD bB ⟨#[99,97,98,108,101]⟩ 1 ([]:(List (ByteArray × Int)))))) [] [(1,0)])
theorem CR:gT Tryz.prog 122 [] [] (fun r=>(.v (.one (.mp 0)))) (fun r=>[(0,some (Nf 9 3 false false 1 1 dh (aS .i64) r))]) (sP):=
  jM tT mX Tryz.func122 (
  .r<| .rg {an:=[(0, .map 0 (lY dh ([]:(List (ByteArray × Int)))) (mE (aS .i64) ([]:(List (ByteArray × Int)))) []),(1, .map (aD bB ⟨#[112,108,97,110,116]⟩ 1 ([]:(List (ByteArray × Int)))).length (lY dh (aD bB ⟨#[112,108,97,110,116]⟩ 1 ([]:(List (ByteArray × Int))))) (mE (aS .i64) (aD bB ⟨#[112,108,97,110,116]⟩ 1 ([]:(List (ByteArray × Int))))) []),(2, .map (aD bB ⟨#[115,111,117,114,99,101]⟩ 2 (aD bB ⟨#[112,108,97,110,116]⟩ 1 ([]:(List (ByteArray × Int))))).length (lY dh (aD bB ⟨#[115,111,117,114,99,101]⟩ 2 (aD bB ⟨#[112,108,97,110,116]⟩ 1 ([]:(List (ByteArray × Int)))))) (mE (aS .i64) (aD bB ⟨#[115,111,117,114,99,101]⟩ 2 (aD bB ⟨#[112,108,97,110,116]⟩ 1 ([]:(List (ByteArray × Int)))))) []),(3, .map (aD bB ⟨#[108,105,110,107]⟩ 3 (aD bB ⟨#[115,111,117,114,99,101]⟩ 2 (aD bB ⟨#[112,108,97,110,116]⟩ 1 ([]:(List (ByteArray × Int)))))).length (lY dh (aD bB ⟨#[108,105,110,107]⟩ 3 (aD bB ⟨#[115,111,117,114,99,101]⟩ 2 (aD bB ⟨#[112,108,97,110,116]⟩ 1 ([]:(List (ByteArray × Int))))))) (mE (aS .i64) (aD bB ⟨#[108,105,110,107]⟩ 3 (aD bB ⟨#[115,111,117,114,99,101]⟩ 2 (aD bB ⟨#[112,108,97,110,116]⟩ 1 ([]:(List (ByteArray × Int))))))) []),(4, .map (aD bB ⟨#[114,97,99,107]⟩ 4 (aD bB ⟨#[108,105,110,107]⟩ 3 (aD bB ⟨#[115,111,117,114,99,101]⟩ 2 (aD bB ⟨#[112,108,97,110,116]⟩ 1 ([]:(List (ByteArray × Int))))))).length (lY dh (aD bB ⟨#[114,97,99,107]⟩ 4 (aD bB ⟨#[108,105,110,107]⟩ 3 (aD bB ⟨#[115,111,117,114,99,101]⟩ 2 (aD bB ⟨#[112,108,97,110,116]⟩ 1 ([]:(List (ByteArray × Int)))))))) (mE (aS .i64) (aD bB ⟨#[114,97,99,107]⟩ 4 (aD bB ⟨#[108,105,110,107]⟩ 3 (aD bB ⟨#[115,111,117,114,99,101]⟩ 2 (aD bB ⟨#[112,108,97,110,116]⟩ 1 ([]:(List (ByteArray × Int)))))))) [])],fr:=[(0,1)]} [.pf ⟨jH [.s] 1 1 ([]:(List (ByteArray × Int))).length (lY dh ([]:(List (ByteArray × Int)))) (mE (aS .i64) ([]:(List (ByteArray × Int)))) [.str ⟨#[112,108,97,110,116]⟩] [cI 1] [] (aD bB ⟨#[112,108,97,110,116]⟩ 1 ([]:(List (ByteArray × Int)))).length (lY dh (aD bB ⟨#[112,108,97,110,116]⟩ 1 ([]:(List (ByteArray × Int))))) (mE (aS .i64) (aD bB ⟨#[112,108,97,110,116]⟩ 1 ([]:(List (ByteArray × Int))))),jL (fun _=>rfl) (fun _ _=>rfl) ([]:(List (ByteArray × Int))) ⟨#[112,108,97,110,116]⟩ 1 rfl rfl⟩, .pf ⟨jH [.s] 1 1 (aD bB ⟨#[112,108,97,110,116]⟩ 1 ([]:(List (ByteArray × Int)))).length (lY dh (aD bB ⟨#[112,108,97,110,116]⟩ 1 ([]:(List (ByteArray × Int))))) (mE (aS .i64) (aD bB ⟨#[112,108,97,110,116]⟩ 1 ([]:(List (ByteArray × Int))))) [.str ⟨#[115,111,117,114,99,101]⟩] [cI 2] [] (aD bB ⟨#[115,111,117,114,99,101]⟩ 2 (aD bB ⟨#[112,108,97,110,116]⟩ 1 ([]:(List (ByteArray × Int))))).length (lY dh (aD bB ⟨#[115,111,117,114,99,101]⟩ 2 (aD bB ⟨#[112,108,97,110,116]⟩ 1 ([]:(List (ByteArray × Int)))))) (mE (aS .i64) (aD bB ⟨#[115,111,117,114,99,101]⟩ 2 (aD bB ⟨#[112,108,97,110,116]⟩ 1 ([]:(List (ByteArray × Int)))))),jL (fun _=>rfl) (fun _ _=>rfl) (aD bB ⟨#[112,108,97,110,116]⟩ 1 ([]:(List (ByteArray × Int)))) ⟨#[115,111,117,114,99,101]⟩ 2 rfl rfl⟩, .pf ⟨jH [.s] 1 1 (aD bB ⟨#[115,111,117,114,99,101]⟩ 2 (aD bB ⟨#[112,108,97,110,116]⟩ 1 ([]:(List (ByteArray × Int))))).length (lY dh (aD bB ⟨#[115,111,117,114,99,101]⟩ 2 (aD bB ⟨#[112,108,97,110,116]⟩ 1 ([]:(List (ByteArray × Int)))))) (mE (aS .i64) (aD bB ⟨#[115,111,117,114,99,101]⟩ 2 (aD bB ⟨#[112,108,97,110,116]⟩ 1 ([]:(List (ByteArray × Int)))))) [.str ⟨#[108,105,110,107]⟩] [cI 3] [] (aD bB ⟨#[108,105,110,107]⟩ 3 (aD bB ⟨#[115,111,117,114,99,101]⟩ 2 (aD bB ⟨#[112,108,97,110,116]⟩ 1 ([]:(List (ByteArray × Int)))))).length (lY dh (aD bB ⟨#[108,105,110,107]⟩ 3 (aD bB ⟨#[115,111,117,114,99,101]⟩ 2 (aD bB ⟨#[112,108,97,110,116]⟩ 1 ([]:(List (ByteArray × Int))))))) (mE (aS .i64) (aD bB ⟨#[108,105,110,107]⟩ 3 (aD bB ⟨#[115,111,117,114,99,101]⟩ 2 (aD bB ⟨#[112,108,97,110,116]⟩ 1 ([]:(List (ByteArray × Int))))))),jL (fun _=>rfl) (fun _ _=>rfl) (aD bB ⟨#[115,111,117,114,99,101]⟩ 2 (aD bB ⟨#[112,108,97,110,116]⟩ 1 ([]:(List (ByteArray × Int))))) ⟨#[108,105,110,107]⟩ 3 rfl rfl⟩, .pf ⟨jH [.s] 1 1 (aD bB ⟨#[108,105,110,107]⟩ 3 (aD bB ⟨#[115,111,117,114,99,101]⟩ 2 (aD bB ⟨#[112,108,97,110,116]⟩ 1 ([]:(List (ByteArray × Int)))))).length (lY dh (aD bB ⟨#[108,105,110,107]⟩ 3 (aD bB ⟨#[115,111,117,114,99,101]⟩ 2 (aD bB ⟨#[112,108,97,110,116]⟩ 1 ([]:(List (ByteArray × Int))))))) (mE (aS .i64) (aD bB ⟨#[108,105,110,107]⟩ 3 (aD bB ⟨#[115,111,117,114,99,101]⟩ 2 (aD bB ⟨#[112,108,97,110,116]⟩ 1 ([]:(List (ByteArray × Int))))))) [.str ⟨#[114,97,99,107]⟩] [cI 4] [] (aD bB ⟨#[114,97,99,107]⟩ 4 (aD bB ⟨#[108,105,110,107]⟩ 3 (aD bB ⟨#[115,111,117,114,99,101]⟩ 2 (aD bB ⟨#[112,108,97,110,116]⟩ 1 ([]:(List (ByteArray × Int))))))).length (lY dh (aD bB ⟨#[114,97,99,107]⟩ 4 (aD bB ⟨#[108,105,110,107]⟩ 3 (aD bB ⟨#[115,111,117,114,99,101]⟩ 2 (aD bB ⟨#[112,108,97,110,116]⟩ 1 ([]:(List (ByteArray × Int)))))))) (mE (aS .i64) (aD bB ⟨#[114,97,99,107]⟩ 4 (aD bB ⟨#[108,105,110,107]⟩ 3 (aD bB ⟨#[115,111,117,114,99,101]⟩ 2 (aD bB ⟨#[112,108,97,110,116]⟩ 1 ([]:(List (ByteArray × Int)))))))),jL (fun _=>rfl) (fun _ _=>rfl) (aD bB ⟨#[108,105,110,107]⟩ 3 (aD bB ⟨#[115,111,117,114,99,101]⟩ 2 (aD bB ⟨#[112,108,97,110,116]⟩ 1 ([]:(List (ByteArray × Int)))))) ⟨#[114,97,99,107]⟩ 4 rfl rfl⟩]<| .en (aD bB ⟨#[114,97,99,107]⟩ 4 (aD bB ⟨#[108,105,110,107]⟩ 3 (aD bB ⟨#[115,111,117,114,99,101]⟩ 2 (aD bB ⟨#[112,108,97,110,116]⟩ 1 ([]:(List (ByteArray × Int))))))) [] [(1,0)])
theorem zY (u0:List (ByteArray × Int)) (w_:ByteArray):Ia Tryz.prog tJ 124 [.one (.mp 0),sD (.str w_)] [(0,some (Nf 9 65 false false 1 1 dh (aS .i64) u0))] (fun r=>(vI r)) (fun r=>[(0,some (Nf 9 65 false false 1 1 dh (aS .i64) u0))]) (kF u0 w_):=
  Xe tT mX Tryz.func124 (
  .r<| .rg {an:=[(2, .look (bn bB w_ u0).isSome [cI ((bn bB w_ u0).getD 0)])]} [.pf ⟨ku [.s] 1 1 u0.length (lY dh u0) (mE (aS .i64) u0) [.str w_] [.d (.int .i64 0)] (bn bB w_ u0).isSome [cI ((bn bB w_ u0).getD 0)],iL (fun _=>rfl) (fun _ _=>rfl) u0 w_ 0 rfl rfl rfl⟩]<| .cp 1 (dY ((bn bB w_ u0).isSome)) (fun r_=>
  .r<| .r<| .e (some ((bn bB w_ u0).getD 0)))
  (.pn tJ 1 [] [0] {} []<| .e none))
theorem wN (u0:List (ByteArray × Int)) (w_:ByteArray):Ia Tryz.prog tJ 125 [.one (.mp 0),sD (.str w_)] [(0,some (Nf 9 68 false false 1 1 dh (aS .i64) u0))] (fun r=>(vI r)) (fun r=>[(0,some (Nf 9 68 false false 1 1 dh (aS .i64) u0))]) (ig u0 w_):=
  Xe tT mX Tryz.func125 (
  .r<| .rg {an:=[(2, .look (bn bB w_ u0).isSome [cI ((bn bB w_ u0).getD 0)])]} [.pf ⟨ku [.s] 1 1 u0.length (lY dh u0) (mE (aS .i64) u0) [.str w_] [.d (.int .i64 0)] (bn bB w_ u0).isSome [cI ((bn bB w_ u0).getD 0)],iL (fun _=>rfl) (fun _ _=>rfl) u0 w_ 0 rfl rfl rfl⟩]<| .cp 1 (dY ((bn bB w_ u0).isSome)) (fun r_=>
  .r<| .r<| .e (some ((bn bB w_ u0).getD 0)))
  (.pn tJ 1 [] [0] {} []<| .e none))
section
variable (r_:List ByteArray) (v2:List (ByteArray × Int)) (u0:ah) (u2:Int) (u3:Int) (u4:Int) (u5:Int) (u6:Int) (u7:Int) (u8:Int) (u9:Int) (v0:Int) (v1:Int) (x5:List aQ) (v5:Int) (v6:Int) (v7:Int) (v8:Int)
abbrev YP:=((0:Int)<=0/\0<(r_.length:Int))
abbrev UX:=((bn bB (at' r_ 0) v2).getD 0)
abbrev Hr:=((0:Int)<=1/\1<(r_.length:Int))
abbrev Zm:=(u0.aa.length+[(⟨u2,u3,u4,u5,u6⟩:Source)].length)
abbrev I4:=((0:Int)<=2/\2<(r_.length:Int))
abbrev Ir:=((0:Int)<=3/\3<(r_.length:Int))
abbrev Js:=((0:Int)<=4/\4<(r_.length:Int))
abbrev NR:=((0:Int)<=5/\5<(r_.length:Int))
abbrev Yx:=(ay Source.cell [(⟨u2,u3,u4,u5,u6⟩:Source)])
abbrev Xt:=(u0.aa++[(⟨u2,u3,u4,u5,u6⟩:Source)])
abbrev k62:=(ay Source.cell (Xt u0 u2 u3 u4 u5 u6))
abbrev k63:List (Nat × Option Ob):=[(33,some (.cells 73 [cI u7,cI u8,cI u9,cI v0,cI v1,.own 34 false x5.length])),(34,some (cu 70 2 aQ.cell x5))]
abbrev Pg:=(⟨(⟨v5,v6⟩:aC),v7,v8⟩:aF)
abbrev YB:=(ay aF.cell [Pg v5 v6 v7 v8])
abbrev XB:=(u0.am++[Pg v5 v6 v7 v8])
abbrev k67:=(ay aF.cell (XB u0 v5 v6 v7 v8))
end
theorem EH (w0:Int) (s_:ByteArray) (u0:ah):Ia Tryz.prog tJ 94 [.one (.ptr 0 0),sI w0,sD (.str s_)] [(0,some (.cells 27 [cI u0.ae,.own 1 false u0.aa.length,.own 2 false u0.ac.length,.own 3 false u0.am.length])),(1,some (cu 67 5 Source.cell u0.aa)),(2,some (cu 73 6 Link.cell u0.ac)),(3,some (cu 76 4 aF.cell u0.am))] (fun r=>(vI r.1)) (fun r=>[(0,some (.cells 27 [cI r.2.ae,.own 4 false r.2.aa.length,.own 5 false r.2.ac.length,.own 6 false r.2.am.length])),(1,none),(2,none),(3,none),(4,some (cu 67 5 Source.cell r.2.aa)),(5,some (cu 73 6 Link.cell r.2.ac)),(6,some (cu 76 4 aF.cell r.2.am))]) (qj w0 s_ u0):=
  Xe tT mX Tryz.func94 (
  .r<| .cl 1 (qR s_ ⟨#[32]⟩) fun r_=> .r<| .cl 0 (vz [(0,23)] CR) fun v2=> .a1 (YP r_)<| .rg {an:=[(4, .look (bn bB (at' r_ 0) v2).isSome [cI (UX r_ v2)])]} [1,0, .pf ⟨ku [.s] 1 1 v2.length (lY dh v2) (mE (aS .i64) v2) [.str (at' r_ 0)] [.d (.int .i64 0)] (bn bB (at' r_ 0) v2).isSome [cI (UX r_ v2)],iL (fun _=>rfl) (fun _ _=>rfl) v2 (at' r_ 0) 0 rfl rfl rfl⟩]<| .cp 13 (dY (bif (bif (bn bB (at' r_ 0) v2).isSome then(decide (w0<=(UX r_ v2)))else false)then((decide (1<(UX r_ v2)))==(decide (0<w0)))else false)) (fun w5=>
  .r<| .r<| .r<| .it (.cp 3 (dY (decide ((r_.length:Int)=2))) (fun w6=>
  .r<| .cp 4 (bC (at' r_ 1)) (fun w2=>
  .a1 (Hr r_)<| .rg {} [0,1]<| .r<| .im (.re 0 1 1 24)<| .im (.re 0 2 2 25)<| .im (.re 0 3 3 26)<| .en (some (UX r_ v2,(⟨w2,u0.aa,u0.ac,u0.am⟩:ah))) [] [(24,4),(25,5),(26,6)])
  (.a1 (Hr r_)<| .pn tJ 4 [] [0,1,2,3] {} [0,1]<| .e none))
  (.pn tJ 3 [] [0,1,2,3] {} []<| .e none))
  (.r<| .it (.cp 3 (dY (decide ((r_.length:Int)=6))) (fun w7=>
  .r<| .cp 8 (bC (at' r_ 1)) (fun u2=>
  .cl 9 (vz [(0,27)] uU) fun w3=> .cpr 13 (rkP [(0,27)] (zY w3 (at' r_ 2))) (fun u3=>
  .cp 17 (bC (at' r_ 3)) (fun u4=>
  .cp 21 (bC (at' r_ 4)) (fun u5=>
  .cp 25 (bC (at' r_ 5)) (fun u6=>
  .as _ inferInstance [(0:Int)<=1/\1<(r_.length:Int),(0:Int)<=2/\2<(r_.length:Int),(0:Int)<=3/\3<(r_.length:Int),(0:Int)<=4/\4<(r_.length:Int),(0:Int)<=5/\5<(r_.length:Int),(Zm u0 u2 u3 u4 u5 u6)*40<=140737488355328,u0.aa.length+[(⟨u2,u3,u4,u5,u6⟩:Source)].length<=4611686018427387904] (fun h=> ⟨h.1,h.2.1,h.2.2.1,h.2.2.2.1,h.2.2.2.2.1,h.2.2.2.2.2.1,h.2.2.2.2.2.2,trivial⟩:((Hr r_)/\(I4 r_)/\(Ir r_)/\(Js r_)/\(NR r_)/\((Zm u0 u2 u3 u4 u5 u6)*40<=140737488355328)/\(u0.aa.length+[(⟨u2,u3,u4,u5,u6⟩:Source)].length<=4611686018427387904))->_)<| .rg {an:=[(27, .arr [(⟨u2,u3,u4,u5,u6⟩:Source)].length (Yx u2 u3 u4 u5 u6)),(28, .arr (Xt u0 u2 u3 u4 u5 u6).length (k62 u0 u2 u3 u4 u5 u6))],fr:=[(27,28),(28,29)]} [0,12,11,1,10,2,9,3,8,4,7, .pf ⟨[(⟨u2,u3,u4,u5,u6⟩:Source)].length=1,rfl⟩, .pf ⟨aI 1 5 (kS 5 [.int .i64 u2,.int .i64 u3,.int .i64 u4,.int .i64 u5,.int .i64 u6]) (Yx u2 u3 u4 u5 u6),(by intro i hi j hj;match i,j,hi,hj with|0,0,_,_=>rfl|0,1,_,_=>rfl|0,2,_,_=>rfl|0,3,_,_=>rfl|0,4,_,_=>rfl)⟩, .e (u0.aa.length),5,6, .pf ⟨(Xt u0 u2 u3 u4 u5 u6).length=u0.aa.length+[(⟨u2,u3,u4,u5,u6⟩:Source)].length,cd⟩, .pf ⟨aI (Zm u0 u2 u3 u4 u5 u6) 5 (nM (ay Source.cell u0.aa) u0.aa.length (Yx u2 u3 u4 u5 u6)) (k62 u0 u2 u3 u4 u5 u6),bS _ _ _ _⟩]<| .r<| .im (.re 0 2 2 30)<| .im (.re 0 3 3 31)<| .en (some (UX r_ v2,(⟨u0.ae,Xt u0 u2 u3 u4 u5 u6,u0.ac,u0.am⟩:ah))) [] [(29,4),(30,5),(31,6)])
  (.a5 (Hr r_) (I4 r_) (Ir r_) (Js r_) (NR r_)<| .pn tJ 25 [] [0,1,2,3] {} [0,10,9,1,8,2,7,3,6,4,5]<| .e none))
  (.a5 (Hr r_) (I4 r_) (Ir r_) (Js r_) (NR r_)<| .pn tJ 21 [] [0,1,2,3] {} [0,9,8,1,7,2,6,3,5,4]<| .e none))
  (.a5 (Hr r_) (I4 r_) (Ir r_) (Js r_) (NR r_)<| .pn tJ 17 [] [0,1,2,3] {} [0,8,7,1,6,2,5,3,4]<| .e none))
  (.a5 (Hr r_) (I4 r_) (Ir r_) (Js r_) (NR r_)<| .pn tJ 13 [] [0,1,2,3] {} [0,7,6,1,5,2,3,4]<| .e none))
  (.a5 (Hr r_) (I4 r_) (Ir r_) (Js r_) (NR r_)<| .pn tJ 8 [] [0,1,2,3] {} [0,5,1,2,3,4]<| .e none))
  (.pn tJ 3 [] [0,1,2,3] {} []<| .e none))
  (.r<| .it (.cp 3 (dY (decide (6<=(r_.length:Int)))) (fun w8=>
  .r<| .cp 3 (bC (at' r_ 1)) (fun u7=>
  .cp 7 (bC (at' r_ 2)) (fun u8=>
  .cl 8 (vz [(0,32)] yx) fun w4=> .cpr 12 (rkP [(0,32)] (wN w4 (at' r_ 3))) (fun u9=>
  .cp 16 (bC (at' r_ 4)) (fun v0=>
  .cp 20 (bC (at' r_ 5)) (fun v1=>
  .a5 (Hr r_) (I4 r_) (Ir r_) (Js r_) (NR r_)<| .rg {fr:=[(22,33)]} [0,10,1,9,8,2,7,3,6,4,5]<| .im (.gD 33 5 34 70 2 (ay aQ.cell ([]:List aQ)))<| .a1 ((0:Int)<=(6:Int)/\(6:Int)<=(r_.length:Int))<| .r<| .im (.us 120 (vD (.sl none 1 (r_.length - 6) (fun iq jq=>ay dh r_ (iq+6) jq))) (vD (bQ none 1 dh (r_.drop 6))) (Db.v (A7.one (su.d (o9.slN (by first|rw [cd,ea]|simp only [cJ,ea,Cx]|exact dC) (.inr rfl) (Nb _ _ _ _))))))<| .lp (σ:=((List aQ) × Int)) (β:=(List aQ)) (([]:List aQ),0) [] [] ⟨[0,8,10,120,121],[0,1,2,3],fun(x5,v9)=>[(122,vI v9)],fun(x5,v9)=>(k63 u7 u8 u9 v0 v1 x5)⟩ ⟨[0,8,10],[0,1,2,3],fun u1=>[],fun u1=>(k63 u7 u8 u9 v0 v1 u1)⟩
  (fun(x5,v9)=> .r<| .it (.a1 ((0:Int)<=v9/\v9<((r_.drop 6).length:Int))<| .r<| .cl 1 (dR (at' (r_.drop 6) v9.toNat) ⟨#[58]⟩) fun w1=> .r<| .cp 1 (dY w1.2.2) (fun w9=>
  .r<| .cp 3 (bC w1.1) (fun v3=>
  .cp 5 (bC w1.2.1) (fun v4=>
  .a2 ((x5.length+[(⟨v3,v4⟩:aQ)].length)*16<=140737488355328) (x5.length+[(⟨v3,v4⟩:aQ)].length<=4611686018427387904)<| .rg {an:=[(7, .arr [(⟨v3,v4⟩:aQ)].length (ay aQ.cell [(⟨v3,v4⟩:aQ)])),(8, .arr (x5++[(⟨v3,v4⟩:aQ)]).length (ay aQ.cell (x5++[(⟨v3,v4⟩:aQ)])))],fr:=[(7,41),(8,42)]} [3,2, .pf ⟨[(⟨v3,v4⟩:aQ)].length=1,rfl⟩, .pf ⟨aI 1 2 (kS 2 [.int .i64 v3,.int .i64 v4]) (ay aQ.cell [(⟨v3,v4⟩:aQ)]),(by intro i hi j hj;match i,j,hi,hj with|0,0,_,_=>rfl|0,1,_,_=>rfl)⟩, .e (x5.length),0,1, .pf ⟨(x5++[(⟨v3,v4⟩:aQ)]).length=x5.length+[(⟨v3,v4⟩:aQ)].length,cd⟩, .pf ⟨aI (x5.length+[(⟨v3,v4⟩:aQ)].length) 2 (nM (ay aQ.cell x5) x5.length (ay aQ.cell [(⟨v3,v4⟩:aQ)])) (ay aQ.cell (x5++[(⟨v3,v4⟩:aQ)])),bS _ _ _ _⟩]<| .r<| .en (.next (x5++[(⟨v3,v4⟩:aQ)],k4 v9)) [] [(42,34)])
  (.pn tJ 5 [] [0,1,2,3] {} []<| .e (.done (.ret none))))
  (.pn tJ 3 [] [0,1,2,3] {} []<| .e (.done (.ret none))))
  (.pn tJ 1 [] [0,1,2,3] {} []<| .e (.done (.ret none))))
  (.e (.done (.brk x5))))
  (fun u1=> .fz [34]<| .a2 ((u0.ac.length+[(⟨u7,u8,u9,v0,v1,u1⟩:Link)].length)*64<=140737488355328) (u0.ac.length+[(⟨u7,u8,u9,v0,v1,u1⟩:Link)].length<=4611686018427387904)<| .rg {an:=[(6, .arr [(⟨u7,u8,u9,v0,v1,u1⟩:Link)].length (ay Link.cell [(⟨u7,u8,u9,v0,v1,u1⟩:Link)])),(7, .arr (u0.ac++[(⟨u7,u8,u9,v0,v1,u1⟩:Link)]).length (ay Link.cell (u0.ac++[(⟨u7,u8,u9,v0,v1,u1⟩:Link)])))],fr:=[(6,43),(7,44)]} [.pf ⟨[(⟨u7,u8,u9,v0,v1,u1⟩:Link)].length=1,rfl⟩, .pf ⟨aI 1 6 (kS 6 [.int .i64 u7,.int .i64 u8,.int .i64 u9,.int .i64 v0,.int .i64 v1,bQ none 2 aQ.cell u1]) (ay Link.cell [(⟨u7,u8,u9,v0,v1,u1⟩:Link)]),(by intro i hi j hj;match i,j,hi,hj with|0,0,_,_=>rfl|0,1,_,_=>rfl|0,2,_,_=>rfl|0,3,_,_=>rfl|0,4,_,_=>rfl|0,5,_,_=>rfl)⟩, .e (u0.ac.length),0,1, .pf ⟨(u0.ac++[(⟨u7,u8,u9,v0,v1,u1⟩:Link)]).length=u0.ac.length+[(⟨u7,u8,u9,v0,v1,u1⟩:Link)].length,cd⟩, .pf ⟨aI (u0.ac.length+[(⟨u7,u8,u9,v0,v1,u1⟩:Link)].length) 6 (nM (ay Link.cell u0.ac) u0.ac.length (ay Link.cell [(⟨u7,u8,u9,v0,v1,u1⟩:Link)])) (ay Link.cell (u0.ac++[(⟨u7,u8,u9,v0,v1,u1⟩:Link)])),bS _ _ _ _⟩]<| .r<| .im (.re 0 1 1 45)<| .im (.re 0 3 3 46)<| .en (some (UX r_ v2,(⟨u0.ae,u0.aa,u0.ac++[(⟨u7,u8,u9,v0,v1,u1⟩:Link)],u0.am⟩:ah))) [] [(45,4),(44,5),(46,6)]))
  (.a5 (Hr r_) (I4 r_) (Ir r_) (Js r_) (NR r_)<| .pn tJ 20 [] [0,1,2,3] {fr:=[(22,33)]} [0,10,1,9,8,2,7,3,6,4,5]<| .e none))
  (.a5 (Hr r_) (I4 r_) (Ir r_) (Js r_) (NR r_)<| .pn tJ 16 [] [0,1,2,3] {fr:=[(22,33)]} [0,9,1,8,7,2,6,3,5,4]<| .e none))
  (.a5 (Hr r_) (I4 r_) (Ir r_) (Js r_) (NR r_)<| .pn tJ 12 [] [0,1,2,3] {fr:=[(22,33)]} [0,8,1,7,6,2,5,3,4]<| .e none))
  (.a5 (Hr r_) (I4 r_) (Ir r_) (Js r_) (NR r_)<| .pn tJ 7 [] [0,1,2,3] {fr:=[(22,32)]} [0,6,1,5,2,3,4]<| .e none))
  (.a5 (Hr r_) (I4 r_) (Ir r_) (Js r_) (NR r_)<| .pn tJ 3 [] [0,1,2,3] {fr:=[(22,32)]} [0,5,1,2,3,4]<| .e none))
  (.pn tJ 3 [] [0,1,2,3] {} []<| .e none))
  (.r<| .it (.cp 3 (dY (decide ((r_.length:Int)=5))) (fun x0=>
  .r<| .cp 8 (bC (at' r_ 1)) (fun v5=>
  .cp 12 (bC (at' r_ 2)) (fun v6=>
  .cp 17 (bC (at' r_ 3)) (fun v7=>
  .cp 21 (bC (at' r_ 4)) (fun v8=>
  .a6 (Hr r_) (I4 r_) (Ir r_) (Js r_) ((u0.am.length+[Pg v5 v6 v7 v8].length)*32<=140737488355328) (u0.am.length+[Pg v5 v6 v7 v8].length<=4611686018427387904)<| .rg {an:=[(23, .arr [Pg v5 v6 v7 v8].length (YB v5 v6 v7 v8)),(24, .arr (XB u0 v5 v6 v7 v8).length (k67 u0 v5 v6 v7 v8))],fr:=[(23,47),(24,48)]} [0,9,1,8,2,7,3,6, .pf ⟨[Pg v5 v6 v7 v8].length=1,rfl⟩, .pf ⟨aI 1 4 (kS 4 [.int .i64 v5,.int .i64 v6,.int .i64 v7,.int .i64 v8]) (YB v5 v6 v7 v8),(by intro i hi j hj;match i,j,hi,hj with|0,0,_,_=>rfl|0,1,_,_=>rfl|0,2,_,_=>rfl|0,3,_,_=>rfl)⟩, .e (u0.am.length),4,5, .pf ⟨(XB u0 v5 v6 v7 v8).length=u0.am.length+[Pg v5 v6 v7 v8].length,cd⟩, .pf ⟨aI (u0.am.length+[Pg v5 v6 v7 v8].length) 4 (nM (ay aF.cell u0.am) u0.am.length (YB v5 v6 v7 v8)) (k67 u0 v5 v6 v7 v8),bS _ _ _ _⟩]<| .r<| .im (.re 0 1 1 49)<| .im (.re 0 2 2 50)<| .en (some (UX r_ v2,(⟨u0.ae,u0.aa,u0.ac,XB u0 v5 v6 v7 v8⟩:ah))) [] [(49,4),(50,5),(48,6)])
  (.a4 (Hr r_) (I4 r_) (Ir r_) (Js r_)<| .pn tJ 21 [] [0,1,2,3] {} [0,7,1,6,2,5,3,4]<| .e none))
  (.a4 (Hr r_) (I4 r_) (Ir r_) (Js r_)<| .pn tJ 17 [] [0,1,2,3] {} [0,6,1,5,2,4,3]<| .e none))
  (.a4 (Hr r_) (I4 r_) (Ir r_) (Js r_)<| .pn tJ 12 [] [0,1,2,3] {} [0,5,1,4,2,3]<| .e none))
  (.a4 (Hr r_) (I4 r_) (Ir r_) (Js r_)<| .pn tJ 8 [] [0,1,2,3] {} [0,4,1,2,3]<| .e none))
  (.pn tJ 3 [] [0,1,2,3] {} []<| .e none))
  (.r<| .im (.re 0 1 1 51)<| .im (.re 0 2 2 52)<| .im (.re 0 3 3 53)<| .en (some (UX r_ v2,u0)) [] [(51,4),(52,5),(53,6)])))))
  (.pn tJ 13 [] [0,1,2,3] {} []<| .e none))
section
variable (o0:Int) (o1:List Source) (o2:List Link) (o3:List aF)
abbrev k68:List (Nat × Option Ob):=[(17,some (.cells 27 [cI o0,.own 54 false o1.length,.own 55 false o2.length,.own 56 false o3.length])),(19,none),(20,none),(21,none),(54,some (cu 67 5 Source.cell o1)),(55,some (cu 73 6 Link.cell o2)),(56,some (cu 76 4 aF.cell o3))]
end
theorem y7 (u7:ByteArray):gT Tryz.prog 50 [sD (.str u7)] [] (fun r=>(.eZ [.agg [cI r.1.ae,.own 0 false r.1.aa.length,.own 1 false r.1.ac.length,.own 2 false r.1.am.length],sI r.2.1,sB r.2.2])) (fun r=>[(0,some (cu 67 5 Source.cell r.1.aa)),(1,some (cu 73 6 Link.cell r.1.ac)),(2,some (cu 76 4 aF.cell r.1.am)),(3,none)]) (oU u7):=
  Z8 tT mX Tryz.func50 (p:=dfG (lV Tryz.f50)) (pv:=tJ) (β:=Unit) (γ:=(Int × (List Source) × (List Link) × (List aF) × Bool × Int)) (δ:=(Int × (List Source) × (List Link) × (List aF) × Int)) (
  .rg {fr:=[(0,22),(2,23)]} []<| .im (.gD 22 1 24 67 5 (ay Source.cell ([]:List Source)))<| .im (.gD 22 2 25 73 6 (ay Link.cell ([]:List Link)))<| .im (.gD 22 3 26 76 4 (ay aF.cell ([]:List aF)))<| .en () [] [(22,17),(23,18),(24,19),(25,20),(26,21)])
  ⟨[0],[],fun z_=>[(2,vP 17 0),(3,vI 0),(4,vP 18 0)],fun z_=>[(17,some (.cells 27 [cI 0,.own 19 false (([]:List Source).length),.own 20 false (([]:List Link).length),.own 21 false (([]:List aF).length)])),(18,some (.cells 4 [cB false])),(19,some (cu 67 5 Source.cell ([]:List Source))),(20,some (cu 73 6 Link.cell ([]:List Link))),(21,some (cu 76 4 aF.cell ([]:List aF)))]⟩ (fun z_=>
  .r<| .im (.re 17 1 19 63)<| .im (.re 17 2 20 64)<| .im (.re 17 3 21 65)<| .lp (σ:=(Int × (List Source) × (List Link) × (List aF) × ByteArray × Int × Int)) (β:=(Int × (List Source) × (List Link) × (List aF) × Int)) (0,([]:List Source),([]:List Link),([]:List aF),u7,0,0) [] [(63,54),(64,55),(65,56)] ⟨[2,4],[18],fun(o0,o1,o2,o3,u4,n,u5)=>[(0,vD (.str u4)),(3,vI n),(5,vI u5)],fun(o0,o1,o2,o3,u4,n,u5)=>(k68 o0 o1 o2 o3)⟩ ⟨[2,4],[18],fun(u6,u0,u1,u2,n1)=>[(3,vI n1)],fun(u6,u0,u1,u2,n1)=>(k68 u6 u0 u1 u2)⟩
  (fun(o0,o1,o2,o3,u4,n,u5)=> .r<| .it (.cl 1 (dR u4 ⟨#[10]⟩) fun r_=> .r<| .cp 1 (dY r_.2.2) (fun u8=>
  .r<| .cp 2 (rkP [(0,17),(1,54),(2,55),(3,56),(4,60),(5,61),(6,62)] (EH u5 r_.1 (⟨o0,o1,o2,o3⟩:ah))) (fun u3=>
  .r<| .r<| .r<| .en (.next (u3.2.ae,u3.2.aa,u3.2.ac,u3.2.am,r_.2.1,k4 n,u3.1)) [] [(60,54),(61,55),(62,56)])
  (.pn tJ 2 [2,3,4] [17,18,19,20,21,54,55,56] {} []<| .en (.done (.ret (.inr (o0,o1,o2,o3,n)))) [] [(54,36),(55,37),(56,38)]))
  (.pn tJ 1 [2,3,4] [17,18,19,20,21,54,55,56] {} []<| .en (.done (.ret (.inr (o0,o1,o2,o3,n)))) [] [(54,36),(55,37),(56,38)]))
  (.e (.done (.brk (o0,o1,o2,o3,n)))))
  (fun(u6,u0,u1,u2,n1)=> .r<| .en (.inl (u6,u0,u1,u2,decide (0<n1),n1)) [] [(54,36),(55,37),(56,38)]))
  (fun z_=> ⟨[2,4],[],fun w_=>[(3,vI w_.2.2.2.2.2)],fun w_=>[(17,some (.cells 27 [cI w_.1,.own 36 false w_.2.1.length,.own 37 false w_.2.2.1.length,.own 38 false w_.2.2.2.1.length])),(18,some (.cells 4 [cB w_.2.2.2.2.1])),(19,none),(20,none),(21,none),(36,some (cu 67 5 Source.cell w_.2.1)),(37,some (cu 73 6 Link.cell w_.2.2.1)),(38,some (cu 76 4 aF.cell w_.2.2.2.1))]⟩) (fun z_=> ⟨[2,4],[18],fun x=>[(3,vI x.2.2.2.2)],fun x=>[(17,some (.cells 27 [cI x.1,.own 36 false x.2.1.length,.own 37 false x.2.2.1.length,.own 38 false x.2.2.2.1.length])),(19,none),(20,none),(21,none),(36,some (cu 67 5 Source.cell x.2.1)),(37,some (cu 73 6 Link.cell x.2.2.1)),(38,some (cu 76 4 aF.cell x.2.2.2.1))]⟩) (g:=92) (cargs:=(fun z_=>[.one (.ptr 18 0)])) (chin:=(fun z_ w_=>[(18,some (.cells 4 [cB w_.2.2.2.2.1]))])) (chd:=(fun z_ w_=>[(18,some (.cells 4 [cB w_.2.2.2.2.1]))])) (cpin:=(fun z_ x=>[(18,some (.cells 4 [cB false]))])) (cpd:=(fun z_ x=>[(18,some (.cells 4 [cB false]))]))
  (fun z_ w_=>V6 18 _) (fun z_ x=>VZ 18 _)
  (fun z_ w_=>
  .en ((⟨w_.1,w_.2.1,w_.2.2.1,w_.2.2.2.1⟩:ah),w_.2.2.2.2.2,w_.2.2.2.2.1) [18] [(36,0),(37,1),(38,2),(17,3)]) (fun z_ x=>
  .en ((⟨x.1,x.2.1,x.2.2.1,x.2.2.2.1⟩:ah),x.2.2.2.2,false) [18] [(36,0),(37,1),(38,2),(17,3)])
  (by kernel_rfl) (by kernel_rfl) (by kernel_rfl) (by kernel_rfl) (fun _=>by kernel_rfl) (fun _ _=> ⟨by kernel_rfl,by kernel_rfl,trivial⟩) (fun _ _=> ⟨by kernel_rfl,by kernel_rfl,trivial⟩) (fun _ _=>by kernel_rfl) (fun _ _=>by kernel_rfl) (by kernel_rfl)
section
variable (i:Int) (s_:ByteArray) (u0:List ByteArray)
abbrev ZW:=((0:Int)<=i/\i<((s_.size:Nat):Int))
abbrev k70:=(IntKind.wrap .i64 ((u0.length:Int) - 1))
abbrev k71:=((k70 u0).toNat)
abbrev Yo:=((k4 i).toNat)
abbrev k75:=(ax (at' u0 (k71 u0)) (jh s_ i.toNat (Yo i)))
abbrev k74:=(u0.set (k71 u0) (k75 i s_ u0))
abbrev k73:=(ay dh (k74 i s_ u0))
end
theorem Di (s_:ByteArray):gT Tryz.prog 95 [sD (.str s_)] [] (fun r=>(vD (bQ none 1 dh r))) (fun _=>[]) (oZ s_):=
  jM tT mX Tryz.func95 (
  .r<| .rg {an:=[(0, .arr [(⟨#[]⟩:ByteArray)].length (ay dh [(⟨#[]⟩:ByteArray)]))],fr:=[(0,9)]} [.pf ⟨[(⟨#[]⟩:ByteArray)].length=1,rfl⟩, .pf ⟨aI 1 1 (kS 1 [.str ⟨#[]⟩]) (ay dh [(⟨#[]⟩:ByteArray)]),(by intro i hi j hj;match i,j,hi,hj with|0,0,_,_=>rfl)⟩]<| .r<| .lp (σ:=((List ByteArray) × Int)) (β:=(List ByteArray)) ([(⟨#[]⟩:ByteArray)],0) [] [] ⟨[0],[],fun(u0,i)=>[(3,vO 9 false u0.length),(4,vI i)],fun(u0,i)=>[(9,some (cu 9 1 dh u0))]⟩ ⟨[],[],fun u1=>[(3,vO 9 false u1.length)],fun u1=>[(9,some (cu 9 1 dh u1))]⟩
  (fun(u0,i)=> .r<| .it (.a1 (ZW i s_)<| .r<| .it (.a2 ((u0.length+[(⟨#[]⟩:ByteArray)].length)*16<=140737488355328) (u0.length+[(⟨#[]⟩:ByteArray)].length<=4611686018427387904)<| .rg {an:=[(1, .arr [(⟨#[]⟩:ByteArray)].length (ay dh [(⟨#[]⟩:ByteArray)])),(2, .arr (u0++[(⟨#[]⟩:ByteArray)]).length (ay dh (u0++[(⟨#[]⟩:ByteArray)])))],fr:=[(1,16),(2,17)]} [.pf ⟨[(⟨#[]⟩:ByteArray)].length=1,rfl⟩, .pf ⟨aI 1 1 (kS 1 [.str ⟨#[]⟩]) (ay dh [(⟨#[]⟩:ByteArray)]),(by intro i hi j hj;match i,j,hi,hj with|0,0,_,_=>rfl)⟩, .e (u0.length),0,1, .pf ⟨(u0++[(⟨#[]⟩:ByteArray)]).length=u0.length+[(⟨#[]⟩:ByteArray)].length,cd⟩, .pf ⟨aI (u0.length+[(⟨#[]⟩:ByteArray)].length) 1 (nM (ay dh u0) u0.length (ay dh [(⟨#[]⟩:ByteArray)])) (ay dh (u0++[(⟨#[]⟩:ByteArray)])),bS _ _ _ _⟩]<| .r<| .en (.next (u0++[(⟨#[]⟩:ByteArray)],k4 i)) [] [(17,9)])
  (.a3 ((0:Int)<=(k70 u0)/\(k70 u0)<(u0.length:Int)) ((0:Int)<=i/\i<=(k4 i)/\(k4 i)<=((s_.size:Nat):Int)) ((at' u0 (k71 u0)).size+(jh s_ i.toNat (Yo i)).size<=9223372036854775807)<| .rg {an:=[(17, .arr 0 (k73 i s_ u0))]} [0, .t 0 (k70 u0) u0.length,1,2,0, .t 0 (k70 u0) u0.length, .pf ⟨aI u0.length 1 (wB (ay dh u0) (k71 u0) 0 [.str (k75 i s_ u0)]) (k73 i s_ u0),lm _ _ _ _ _ _ _ _ rfl (fun j hj=>(match j,hj with|0,_=>rfl))⟩]<| .im (.ll 9 u0 (k74 i s_ u0))<| .r<| .e (.next (k74 i s_ u0,k4 i))))
  (.e (.done (.brk u0))))
  (fun u1=> .rg {fz:=[9]} []<| .e u1))
section
variable (i:Int) (l:List ByteArray)
abbrev Yj:=((0:Int)<=i/\i<(l.length:Int))
end
theorem bH (l:List ByteArray) (w_:ByteArray):gT Tryz.prog 96 [sD (bQ none 1 dh l),sD (.str w_)] [] (fun r=>(vI r)) (fun _=>[]) (bD l w_):=
  jM tT mX Tryz.func96 (
  .r<| .r<| .lp (σ:=Int) (β:=Unit) (1) [] [] ⟨[0,1],[],fun i=>[(5,vI i)],fun i=>[]⟩ ⟨[],[],fun _=>[],fun _=>[]⟩
  (fun i=> .r<| .it (.a1 (Yj i l)<| .r<| .it (.r<| .e (.done (.ret i)))
  (.r<| .e (.next (k4 i))))
  (.e (.done (.brk ()))))
  (fun _=> .r<| .e 0))
theorem nI (s_:ByteArray):gT Tryz.prog 97 [sD (.str s_)] [] (fun r=>(.eZ [sI r.1,sB r.2])) (fun _=>[]) (jE s_):=
  jM tT mX Tryz.func97 (
  .r<| .r<| .a1 ((gB [(decide (0<((s_.size:Nat):Int)),true)]=true->(0:Int)<=(0:Int)/\(0:Int)<((s_.size:Nat):Int)))<| .r<| .it (.a1 ((0:Int)<=(1:Int)/\(1:Int)<=((s_.size:Nat):Int))<| .r<| .r<| .it (.r<| .e (0,false))
  (.r<| .r<| .lp (σ:=(Int × Int)) (β:=Int) (0,0) [] [] ⟨[0,4],[],fun(n,i)=>[(5,vI n),(6,vI i)],fun(n,i)=>[]⟩ ⟨[0,4],[],fun n1=>[(5,vI n1)],fun n1=>[]⟩
  (fun(n,i)=> .r<| .it (.a2 ((0:Int)<=i/\i<(((jh s_ 1 s_.size).size:Nat):Int)) ((gB [(decide ((at' (aJ (jh s_ 1 s_.size)) i.toNat)<48),false)]=true->(0:Int)<=i/\i<(((jh s_ 1 s_.size).size:Nat):Int)))<| .rg {} [0,1]<| .it (.r<| .e (.done (.ret (0,false))))
  (.a1 ((0:Int)<=i/\i<(((jh s_ 1 s_.size).size:Nat):Int))<| .r<| .r<| .e (.next (IntKind.wrap .i64 ((IntKind.wrap .i64 ((IntKind.wrap .i64 ((10:Int)*n))+(IntKind.wrap .i64 (at' (aJ (jh s_ 1 s_.size)) i.toNat)))) - 48),k4 i))))
  (.e (.done (.brk n))))
  (fun n1=> .r<| .it (.r<| .cl 2 (aO (IntKind.wrap .i64 (0 - n1))) fun r_=> .r<| .e (IntKind.wrap .i64 (0 - n1),(r_:ByteArray).toList==(s_:ByteArray).toList))
  (.cl 2 (aO n1) fun u0=> .r<| .e (n1,(u0:ByteArray).toList==(s_:ByteArray).toList)))))
  (.r<| .it (.r<| .e (0,false))
  (.r<| .r<| .lp (σ:=(Int × Int)) (β:=Int) (0,0) [] [] ⟨[0,4],[],fun(n2,i1)=>[(5,vI n2),(6,vI i1)],fun(n2,i1)=>[]⟩ ⟨[0,4],[],fun n3=>[(5,vI n3)],fun n3=>[]⟩
  (fun(n2,i1)=> .r<| .it (.a2 (ZW i1 s_) ((gB [(decide ((at' (aJ s_) i1.toNat)<48),false)]=true->(0:Int)<=i1/\i1<((s_.size:Nat):Int)))<| .rg {} [0,1]<| .it (.r<| .e (.done (.ret (0,false))))
  (.a1 (ZW i1 s_)<| .r<| .r<| .e (.next (IntKind.wrap .i64 ((IntKind.wrap .i64 ((IntKind.wrap .i64 ((10:Int)*n2))+(IntKind.wrap .i64 (at' (aJ s_) i1.toNat)))) - 48),k4 i1))))
  (.e (.done (.brk n2))))
  (fun n3=> .r<| .it (.r<| .cl 2 (aO (IntKind.wrap .i64 (0 - n3))) fun u1=> .r<| .e (IntKind.wrap .i64 (0 - n3),(u1:ByteArray).toList==(s_:ByteArray).toList))
  (.cl 2 (aO n3) fun u2=> .r<| .e (n3,(u2:ByteArray).toList==(s_:ByteArray).toList))))))
theorem Dg (l:List ByteArray):gT Tryz.prog 98 [sD (bQ none 1 dh l)] [] (fun r=>(.eZ [sD (bQ none 2 aQ.cell r.1),sB r.2])) (fun _=>[]) (oW l):=
  jM tT mX Tryz.func98 (
  .r<| .r<| .r<| .im (.ad 4 16 70 2 (ay aQ.cell ([]:List aQ)))<| .lp (σ:=((List aQ) × Int)) (β:=(List aQ)) (([]:List aQ),0) [] [(16,9)] ⟨[0],[],fun(u0,i)=>[(4,vO 9 false u0.length),(5,vI i)],fun(u0,i)=>[(9,some (cu 70 2 aQ.cell u0))]⟩ ⟨[],[],fun u3=>[(4,vO 9 false u3.length)],fun u3=>[(9,some (cu 70 2 aQ.cell u3))]⟩
  (fun(u0,i)=> .r<| .it (.r<| .r<| .lp (σ:=(Int × Int)) (β:=Int) (-1,0) [] [] ⟨[0,4,5],[9],fun(u4,kz)=>[(6,vI u4),(7,vI kz)],fun(u4,kz)=>[]⟩ ⟨[0,4,5],[9],fun u2=>[(6,vI u2)],fun u2=>[]⟩
  (fun(u4,kz)=> .a1 (Yj i l)<| .r<| .it (.a2 (Yj i l) ((0:Int)<=kz/\kz<(((at' l i.toNat).size:Nat):Int))<| .rg {} [0,1]<| .it (.r<| .r<| .e (.next (kz,k4 kz)))
  (.r<| .e (.next (u4,k4 kz))))
  (.e (.done (.brk u4))))
  (fun u2=> .r<| .it (.r<| .e (.done (.ret (([]:List aQ),false))))
  (.cl 6 (nI (jh (at' l i.toNat) 0 u2.toNat)) fun r_=> .a2 (Yj i l) ((0:Int)<=u2/\u2<=(((at' l i.toNat).size:Nat):Int))<| .rg {} [0,1,2]<| .cl 7 (nI (jh (at' l i.toNat) (Yo u2) (at' l i.toNat).size)) fun u1=> .a2 (Yj i l) ((0:Int)<=(k4 u2)/\(k4 u2)<=(((at' l i.toNat).size:Nat):Int))<| .rg {} [0,1,2]<| .r<| .it (.r<| .e (.done (.ret (([]:List aQ),false))))
  (.a2 ((u0.length+[(⟨r_.1,u1.1⟩:aQ)].length)*16<=140737488355328) (u0.length+[(⟨r_.1,u1.1⟩:aQ)].length<=4611686018427387904)<| .rg {an:=[(4, .arr [(⟨r_.1,u1.1⟩:aQ)].length (ay aQ.cell [(⟨r_.1,u1.1⟩:aQ)])),(5, .arr (u0++[(⟨r_.1,u1.1⟩:aQ)]).length (ay aQ.cell (u0++[(⟨r_.1,u1.1⟩:aQ)])))],fr:=[(4,14),(5,15)]} [.pf ⟨[(⟨r_.1,u1.1⟩:aQ)].length=1,rfl⟩, .pf ⟨aI 1 2 (kS 2 [.int .i64 r_.1,.int .i64 u1.1]) (ay aQ.cell [(⟨r_.1,u1.1⟩:aQ)]),(by intro i hi j hj;match i,j,hi,hj with|0,0,_,_=>rfl|0,1,_,_=>rfl)⟩, .e (u0.length),0,1, .pf ⟨(u0++[(⟨r_.1,u1.1⟩:aQ)]).length=u0.length+[(⟨r_.1,u1.1⟩:aQ)].length,cd⟩, .pf ⟨aI (u0.length+[(⟨r_.1,u1.1⟩:aQ)].length) 2 (nM (ay aQ.cell u0) u0.length (ay aQ.cell [(⟨r_.1,u1.1⟩:aQ)])) (ay aQ.cell (u0++[(⟨r_.1,u1.1⟩:aQ)])),bS _ _ _ _⟩]<| .r<| .en (.next (u0++[(⟨r_.1,u1.1⟩:aQ)],k4 i)) [] [(15,9)]))))
  (.e (.done (.brk u0))))
  (fun u3=> .rg {fz:=[9]} []<| .e (u3,true)))
end
end Sg
