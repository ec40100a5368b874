import Derived.Test.YtklofnlffikpgaaGreatCoGm
import Derived.Test.YtklofnlffikpgaaGreatProg
import Derived.Test.YtklofnlffikpgaaGreatCoLf
import Derived.Test.YtklofnlffikpgaaGreatCoLe
set_option linter.all false
namespace Sg
open Go Go.Proofs
set_option maxRecDepth 20000
noncomputable section
noncomputable def TT:List (Nat × TI):=[(3,⟨Tryz.t3.desc,Tryz.t3.size,Tryz.t3.bytes,zl Tryz.t3,false⟩),
  (4,⟨Tryz.t4.desc,Tryz.t4.size,Tryz.t4.bytes,zl Tryz.t4,false⟩),
  (22,⟨Tryz.t22.desc,Tryz.t22.size,Tryz.t22.bytes,zl Tryz.t22,false⟩),
  (23,⟨Tryz.t23.desc,Tryz.t23.size,Tryz.t23.bytes,zl Tryz.t23,false⟩),
  (24,⟨Tryz.t24.desc,Tryz.t24.size,Tryz.t24.bytes,zl Tryz.t24,false⟩),
  (26,⟨Tryz.t25.desc,Tryz.t26.size,Tryz.t26.bytes,zl Tryz.t26,false⟩),
  (27,⟨Tryz.t27.desc,Tryz.t27.size,Tryz.t27.bytes,zl Tryz.t27,false⟩),
  (29,⟨Tryz.t28.desc,Tryz.t29.size,Tryz.t29.bytes,zl Tryz.t29,false⟩),
  (34,⟨Tryz.t34.desc,Tryz.t34.size,Tryz.t34.bytes,zl Tryz.t34,false⟩),
  (36,⟨Tryz.t36.desc,Tryz.t36.size,Tryz.t36.bytes,zl Tryz.t36,false⟩),
  (41,⟨Tryz.t41.desc,Tryz.t41.size,Tryz.t41.bytes,zl Tryz.t41,false⟩),
  (44,⟨Tryz.t44.desc,Tryz.t44.size,Tryz.t44.bytes,zl Tryz.t44,true⟩),
  (46,⟨Tryz.t45.desc,Tryz.t46.size,Tryz.t46.bytes,zl Tryz.t46,true⟩),
  (48,⟨Tryz.t48.desc,Tryz.t48.size,Tryz.t48.bytes,zl Tryz.t48,false⟩),
  (61,⟨Tryz.t61.desc,Tryz.t61.size,Tryz.t61.bytes,zl Tryz.t61,false⟩),
  (82,⟨Tryz.t3.desc,Tryz.t82.size,Tryz.t82.bytes,zl Tryz.t82,false⟩),
  (84,⟨Tryz.t83.desc,Tryz.t84.size,Tryz.t84.bytes,zl Tryz.t84,true⟩),
  (92,⟨Tryz.t92.desc,Tryz.t92.size,Tryz.t92.bytes,zl Tryz.t92,false⟩),
  (95,⟨Tryz.t95.desc,Tryz.t95.size,Tryz.t95.bytes,zl Tryz.t95,true⟩),
  (100,⟨Tryz.t99.desc,Tryz.t100.size,Tryz.t100.bytes,zl Tryz.t100,true⟩),
  (108,⟨Tryz.t108.desc,Tryz.t108.size,Tryz.t108.bytes,zl Tryz.t108,false⟩),
  (109,⟨Tryz.t109.desc,Tryz.t109.size,Tryz.t109.bytes,zl Tryz.t109,false⟩),
  (110,⟨Tryz.t3.desc,Tryz.t110.size,Tryz.t110.bytes,zl Tryz.t110,false⟩),
  (111,⟨Tryz.t111.desc,Tryz.t111.size,Tryz.t111.bytes,zl Tryz.t111,false⟩),
  (113,⟨Tryz.t112.desc,Tryz.t113.size,Tryz.t113.bytes,zl Tryz.t113,false⟩),
  (119,⟨Tryz.t119.desc,Tryz.t119.size,Tryz.t119.bytes,zl Tryz.t119,false⟩),
  (122,⟨Tryz.t121.desc,Tryz.t122.size,Tryz.t122.bytes,zl Tryz.t122,false⟩),
  (123,⟨Tryz.t3.desc,Tryz.t123.size,Tryz.t123.bytes,zl Tryz.t123,false⟩),
  (125,⟨Tryz.t124.desc,Tryz.t125.size,Tryz.t125.bytes,zl Tryz.t125,true⟩),
  (141,⟨Tryz.t141.desc,Tryz.t141.size,Tryz.t141.bytes,zl Tryz.t141,false⟩),
  (161,⟨Tryz.t161.desc,Tryz.t161.size,Tryz.t161.bytes,zl Tryz.t161,false⟩),
  (164,⟨Tryz.t164.desc,Tryz.t164.size,Tryz.t164.bytes,zl Tryz.t164,false⟩),
  (167,⟨Tryz.t167.desc,Tryz.t167.size,Tryz.t167.bytes,zl Tryz.t167,false⟩),
  (169,⟨Tryz.t169.desc,Tryz.t169.size,Tryz.t169.bytes,zl Tryz.t169,false⟩),
  (172,⟨Tryz.t172.desc,Tryz.t172.size,Tryz.t172.bytes,zl Tryz.t172,false⟩),
  (173,⟨Tryz.t173.desc,Tryz.t173.size,Tryz.t173.bytes,zl Tryz.t173,false⟩),
  (176,⟨Tryz.t176.desc,Tryz.t176.size,Tryz.t176.bytes,zl Tryz.t176,false⟩),
  (178,⟨Tryz.t177.desc,Tryz.t178.size,Tryz.t178.bytes,zl Tryz.t178,false⟩),
  (192,⟨Tryz.t192.desc,Tryz.t192.size,Tryz.t192.bytes,zl Tryz.t192,false⟩),
  (193,⟨Tryz.t193.desc,Tryz.t193.size,Tryz.t193.bytes,zl Tryz.t193,false⟩),
  (195,⟨Tryz.t194.desc,Tryz.t195.size,Tryz.t195.bytes,zl Tryz.t195,false⟩),
  (198,⟨Tryz.t198.desc,Tryz.t198.size,Tryz.t198.bytes,zl Tryz.t198,false⟩),
  (211,⟨Tryz.t210.desc,Tryz.t211.size,Tryz.t211.bytes,zl Tryz.t211,true⟩),
  (232,⟨Tryz.t232.desc,Tryz.t232.size,Tryz.t232.bytes,zl Tryz.t232,false⟩),
  (236,⟨Tryz.t236.desc,Tryz.t236.size,Tryz.t236.bytes,zl Tryz.t236,false⟩)]
theorem tT:pW Tryz.prog TT:=⟨jd (by kernel_rfl) (by kernel_rfl) (by kernel_rfl),⟨lq,d9 (by kernel_rfl)⟩,jd (by kernel_rfl) (by kernel_rfl) (by kernel_rfl),⟨lq,d9 (by kernel_rfl)⟩,jd (by kernel_rfl) (by kernel_rfl) (by kernel_rfl),⟨lq,d9 (by kernel_rfl)⟩,jd (by kernel_rfl) (by kernel_rfl) (by kernel_rfl),⟨lq,d9 (by kernel_rfl)⟩,jd (by kernel_rfl) (by kernel_rfl) (by kernel_rfl),⟨lq,d9 (by kernel_rfl)⟩,jd (by kernel_rfl) (by kernel_rfl) (by kernel_rfl),⟨lq,d9 (by kernel_rfl)⟩,jd (by kernel_rfl) (by kernel_rfl) (by kernel_rfl),⟨lq,d9 (by kernel_rfl)⟩,jd (by kernel_rfl) (by kernel_rfl) (by kernel_rfl),⟨lq,d9 (by kernel_rfl)⟩,jd (by kernel_rfl) (by kernel_rfl) (by kernel_rfl),⟨lq,d9 (by kernel_rfl)⟩,jd (by kernel_rfl) (by kernel_rfl) (by kernel_rfl),⟨lq,d9 (by kernel_rfl)⟩,jd (by kernel_rfl) (by kernel_rfl) (by kernel_rfl),⟨lq,d9 (by kernel_rfl)⟩,jd (by kernel_rfl) (by kernel_rfl) (by kernel_rfl),⟨fun _=> ⟨by kernel_rfl,by kernel_rfl⟩,d9 (by kernel_rfl)⟩,jd (by kernel_rfl) (by kernel_rfl) (by kernel_rfl),⟨fun _=> ⟨by kernel_rfl,by kernel_rfl⟩,d9 (by kernel_rfl)⟩,jd (by kernel_rfl) (by kernel_rfl) (by kernel_rfl),⟨lq,d9 (by kernel_rfl)⟩,jd (by kernel_rfl) (by kernel_rfl) (by kernel_rfl),⟨lq,d9 (by kernel_rfl)⟩,jd (by kernel_rfl) (by kernel_rfl) (by kernel_rfl),⟨lq,d9 (by kernel_rfl)⟩,jd (by kernel_rfl) (by kernel_rfl) (by kernel_rfl),⟨fun _=> ⟨by kernel_rfl,by kernel_rfl⟩,d9 (by kernel_rfl)⟩,jd (by kernel_rfl) (by kernel_rfl) (by kernel_rfl),⟨lq,d9 (by kernel_rfl)⟩,jd (by kernel_rfl) (by kernel_rfl) (by kernel_rfl),⟨fun _=> ⟨by kernel_rfl,by kernel_rfl⟩,d9 (by kernel_rfl)⟩,jd (by kernel_rfl) (by kernel_rfl) (by kernel_rfl),⟨fun _=> ⟨by kernel_rfl,by kernel_rfl⟩,d9 (by kernel_rfl)⟩,jd (by kernel_rfl) (by kernel_rfl) (by kernel_rfl),⟨lq,d9 (by kernel_rfl)⟩,jd (by kernel_rfl) (by kernel_rfl) (by kernel_rfl),⟨lq,d9 (by kernel_rfl)⟩,jd (by kernel_rfl) (by kernel_rfl) (by kernel_rfl),⟨lq,d9 (by kernel_rfl)⟩,jd (by kernel_rfl) (by kernel_rfl) (by kernel_rfl),⟨lq,d9 (by kernel_rfl)⟩,jd (by kernel_rfl) (by kernel_rfl) (by kernel_rfl),⟨lq,d9 (by kernel_rfl)⟩,jd (by kernel_rfl) (by kernel_rfl) (by kernel_rfl),⟨lq,d9 (by kernel_rfl)⟩,jd (by kernel_rfl) (by kernel_rfl) (by kernel_rfl),⟨lq,d9 (by kernel_rfl)⟩,jd (by kernel_rfl) (by kernel_rfl) (by kernel_rfl),⟨lq,d9 (by kernel_rfl)⟩,jd (by kernel_rfl) (by kernel_rfl) (by kernel_rfl),⟨fun _=> ⟨by kernel_rfl,by kernel_rfl⟩,d9 (by kernel_rfl)⟩,jd (by kernel_rfl) (by kernel_rfl) (by kernel_rfl),⟨lq,d9 (by kernel_rfl)⟩,jd (by kernel_rfl) (by kernel_rfl) (by kernel_rfl),⟨lq,d9 (by kernel_rfl)⟩,jd (by kernel_rfl) (by kernel_rfl) (by kernel_rfl),⟨lq,d9 (by kernel_rfl)⟩,jd (by kernel_rfl) (by kernel_rfl) (by kernel_rfl),⟨lq,d9 (by kernel_rfl)⟩,jd (by kernel_rfl) (by kernel_rfl) (by kernel_rfl),⟨lq,d9 (by kernel_rfl)⟩,jd (by kernel_rfl) (by kernel_rfl) (by kernel_rfl),⟨lq,d9 (by kernel_rfl)⟩,jd (by kernel_rfl) (by kernel_rfl) (by kernel_rfl),⟨lq,d9 (by kernel_rfl)⟩,jd (by kernel_rfl) (by kernel_rfl) (by kernel_rfl),⟨lq,d9 (by kernel_rfl)⟩,jd (by kernel_rfl) (by kernel_rfl) (by kernel_rfl),⟨lq,d9 (by kernel_rfl)⟩,jd (by kernel_rfl) (by kernel_rfl) (by kernel_rfl),⟨lq,d9 (by kernel_rfl)⟩,jd (by kernel_rfl) (by kernel_rfl) (by kernel_rfl),⟨lq,d9 (by kernel_rfl)⟩,jd (by kernel_rfl) (by kernel_rfl) (by kernel_rfl),⟨lq,d9 (by kernel_rfl)⟩,jd (by kernel_rfl) (by kernel_rfl) (by kernel_rfl),⟨lq,d9 (by kernel_rfl)⟩,jd (by kernel_rfl) (by kernel_rfl) (by kernel_rfl),⟨fun _=> ⟨by kernel_rfl,by kernel_rfl⟩,d9 (by kernel_rfl)⟩,jd (by kernel_rfl) (by kernel_rfl) (by kernel_rfl),⟨lq,d9 (by kernel_rfl)⟩,jd (by kernel_rfl) (by kernel_rfl) (by kernel_rfl),⟨lq,d9 (by kernel_rfl)⟩,trivial⟩
theorem mX:Tryz.prog.follows .mixedOrders=true:=by kernel_rfl
def Kt:Go.Shelf.Ren:=⟨fun|6=>52|14=>107|15=>108|20=>153|21=>154|22=>155|23=>156|24=>157|25=>158|26=>159|27=>160|28=>161|29=>162|46=>177|47=>178|48=>179|49=>180|50=>181|57=>182|n=>n,fun|0=>0|3=>3|4=>4|5=>5|9=>9|22=>41|24=>44|25=>128|39=>104|45=>219|46=>220|50=>184|53=>226|55=>228|66=>243|70=>247|76=>249|77=>250|n=>n,fun n=>n⟩
theorem Tx:Go.Proofs.SlLaysF0.n6 Tryz.prog Kt:=⟨by kernel_rfl,⟨Tryz.f52.name,by kernel_rfl,Tryz.func52.trans (congrArg some (by kernel_rfl))⟩,⟨Tryz.f107.name,by kernel_rfl,Tryz.func107.trans (congrArg some (by kernel_rfl))⟩,Tryz.func108.trans (congrArg some (by kernel_rfl)),⟨Tryz.f153.name,by kernel_rfl,Tryz.func153.trans (congrArg some (by kernel_rfl))⟩,⟨Tryz.f154.name,by kernel_rfl,Tryz.func154.trans (congrArg some (by kernel_rfl))⟩,⟨Tryz.f155.name,by kernel_rfl,Tryz.func155.trans (congrArg some (by kernel_rfl))⟩,⟨Tryz.f156.name,by kernel_rfl,Tryz.func156.trans (congrArg some (by kernel_rfl))⟩,⟨Tryz.f157.name,by kernel_rfl,Tryz.func157.trans (congrArg some (by kernel_rfl))⟩,⟨Tryz.f158.name,by kernel_rfl,Tryz.func158.trans (congrArg some (by kernel_rfl))⟩,⟨Tryz.f159.name,by kernel_rfl,Tryz.func159.trans (congrArg some (by kernel_rfl))⟩,⟨Tryz.f160.name,by kernel_rfl,Tryz.func160.trans (congrArg some (by kernel_rfl))⟩,Tryz.func161.trans (congrArg some (by kernel_rfl)),Tryz.func162.trans (congrArg some (by kernel_rfl)),⟨Tryz.f177.name,by kernel_rfl,Tryz.func177.trans (congrArg some (by kernel_rfl))⟩,Tryz.func178.trans (congrArg some (by kernel_rfl)),Tryz.func179.trans (congrArg some (by kernel_rfl)),⟨Tryz.f180.name,by kernel_rfl,Tryz.func180.trans (congrArg some (by kernel_rfl))⟩,⟨Tryz.f181.name,by kernel_rfl,Tryz.func181.trans (congrArg some (by kernel_rfl))⟩,⟨Tryz.f182.name,by kernel_rfl,Tryz.func182.trans (congrArg some (by kernel_rfl))⟩,Tryz.underlying0,Tryz.isAgg0,Tryz.sizeOf0,Tryz.zeroValue0,Tryz.underlying3,Tryz.isAgg3,Tryz.sizeOf3,Tryz.zeroValue3,Tryz.underlying4,Tryz.isAgg4,Tryz.sizeOf4,Tryz.zeroValue4,Tryz.underlying5,Tryz.isAgg5,Tryz.sizeOf5,Tryz.zeroValue5,Tryz.underlying9,Tryz.isAgg9,Tryz.sizeOf9,Tryz.zeroValue9,Tryz.underlying41,Tryz.isAgg41,Tryz.sizeOf41,Tryz.zeroValue41,Tryz.underlying128,Tryz.isAgg128,Tryz.sizeOf128,Tryz.zeroValue128,Tryz.underlying104,Tryz.isAgg104,Tryz.sizeOf104,Tryz.zeroValue104,Tryz.underlying219,Tryz.isAgg219,Tryz.sizeOf219,Tryz.zeroValue219,Tryz.underlying220,Tryz.isAgg220,Tryz.sizeOf220,Tryz.zeroValue220,Tryz.underlying184,Tryz.isAgg184,Tryz.sizeOf184,Tryz.zeroValue184,Tryz.underlying226,Tryz.isAgg226,Tryz.sizeOf226,Tryz.zeroValue226,Tryz.underlying228,Tryz.isAgg228,Tryz.sizeOf228,Tryz.zeroValue228,Tryz.underlying243,Tryz.isAgg243,Tryz.sizeOf243,Tryz.zeroValue243,Tryz.underlying247,Tryz.isAgg247,Tryz.sizeOf247,Tryz.zeroValue247,Tryz.underlying249,Tryz.isAgg249,Tryz.sizeOf249,Tryz.zeroValue249,Tryz.underlying250,Tryz.isAgg250,Tryz.sizeOf250,Tryz.zeroValue250⟩
theorem WT (w:World):(isAgg (Kt.t 24)).run Tryz.prog w= .ok true w:=Tryz.isAgg44 w
theorem Vk (w:World):(Go.sizeOf (Kt.t 24)).run Tryz.prog w= .ok 2 w:=Tryz.sizeOf44 w
def Y3:Go.Shelf.Ren:=⟨fun|23=>170|n=>n,fun|0=>0|3=>3|4=>4|22=>36|n=>n,fun n=>n⟩
theorem Wm:Go.Proofs.Lays2.n23 Tryz.prog Y3:=⟨by kernel_rfl,Tryz.func170.trans (congrArg some (by kernel_rfl)),Tryz.underlying0,Tryz.isAgg0,Tryz.sizeOf0,Tryz.zeroValue0,Tryz.underlying3,Tryz.isAgg3,Tryz.sizeOf3,Tryz.zeroValue3,Tryz.underlying4,Tryz.isAgg4,Tryz.sizeOf4,Tryz.zeroValue4,Tryz.underlying36,Tryz.isAgg36,Tryz.sizeOf36,Tryz.zeroValue36,by kernel_rfl⟩
theorem aK (n:Int) (u0:Int) (u1:Int):dN Tryz.prog 91 [sI n,sI u0,sI u1] [] (fun r=>(vB r)) (fun _=>[]) (aR n u0 u1):=
  eF tT mX Tryz.func91 (
  .r<| .r<| .e (bif (decide (u0<=n))then(decide (n<=u1))else false))
section
variable (p:ah)
abbrev k1:List CV:=[cI p.ap,.d (aZ none 5 Source.cell p.aa),.d (aZ none 6 Link.cell p.ae),.d (aZ none 4 aL.cell p.a_)]
abbrev k0:List SV:=[.agg (k1 p)]
end
theorem Cb (p:ah):dN Tryz.prog 93 (k0 p) [] (fun r=>(vD (.fn 140 1 (yD [Jm [.int .i64 r.1,aZ none 5 Source.cell r.2.1,aZ none 6 Link.cell r.2.2.1,aZ none 4 aL.cell r.2.2.2] 0])))) (fun _=>[]) (uE p):=
  eF tT mX Tryz.func93 (
  .rg {fr:=[(0,1)],fz:=[1]} []<| .r<| .e (p.ap,p.aa,p.ae,p.a_))
theorem EG (p:ah):dN Tryz.prog 95 (k0 p) [] (fun r=>(vD (.fn 143 1 (yD [Jm [.int .i64 r.1,aZ none 5 Source.cell r.2.1,aZ none 6 Link.cell r.2.2.1,aZ none 4 aL.cell r.2.2.2] 0])))) (fun _=>[]) (xC p):=
  eF tT mX Tryz.func95 (
  .rg {fr:=[(0,1)],fz:=[1]} []<| .r<| .e (p.ap,p.aa,p.ae,p.a_))
theorem EN (p:ah):dN Tryz.prog 97 (k0 p) [] (fun r=>(vD (.fn 146 1 (yD [Jm [.int .i64 r.1,aZ none 5 Source.cell r.2.1,aZ none 6 Link.cell r.2.2.1,aZ none 4 aL.cell r.2.2.2] 0])))) (fun _=>[]) (xR p):=
  eF tT mX Tryz.func97 (
  .rg {fr:=[(0,1)],fz:=[1]} []<| .r<| .e (p.ap,p.aa,p.ae,p.a_))
section
variable (u2:List Source) (u3:List Link) (u4:List aL) (x1:Int) (r_:Bool) (u0:Bool) (u1:Bool) (u5:Bool) (u6:Bool)
abbrev k3:DV:=(aZ none 5 Source.cell u2)
abbrev k4:DV:=(aZ none 6 Link.cell u3)
abbrev k5:DV:=(aZ none 4 aL.cell u4)
abbrev k2:DV:=(Jm [.int .i64 x1,k3 u2,k4 u3,k5 u4] 0)
abbrev k6:=(IntKind.wrap .i64 (x1 - 1))
abbrev k7:=(bif (bif (bif (bif r_ then u0 else false)then u1 else false)then u5 else false)then u6 else false)
end
theorem Aw (x:Source) (x1:Int) (u2:List Source) (u3:List Link) (u4:List aL):dN Tryz.prog 140 [.agg [cI x.bus,cI x.kind,cI x.power,cI x.bp,cI x.ohm],sD (k2 u2 u3 u4 x1)] [] (fun r=>(vB r)) (fun _=>[]) (ny x x1 u2 u3 u4):=
  eF tT mX Tryz.func140 (
  .rg {fr:=[(0,1)],fz:=[1]} []<| .cl 5 (aK x.bus 0 (k6 x1)) fun r_=> .cg 9 [(r_,true)] (aK x.kind 1 3) fun u0=> .cg 14 [((bif r_ then u0 else false),true)] (aK x.power 1 100000) fun u1=> .cg 19 [((bif (bif r_ then u0 else false)then u1 else false),true)] (aK x.bp 0 8) fun u5=> .cg 24 [((bif (bif (bif r_ then u0 else false)then u1 else false)then u5 else false),true)] (aK x.ohm 10 100000) fun u6=> .r<| .e (k7 r_ u0 u1 u5 u6))
section
variable (x1:Int) (u0:List Source) (u1:List Link) (u2:List aL)
abbrev k9:=(yD [k2 u0 u1 u2 x1])
abbrev k8:DV:=(Jm [.fn 140 1 (k9 x1 u0 u1 u2)] 0)
end
theorem Cz (x:Source) (x1:Int) (u0:List Source) (u1:List Link) (u2:List aL):dN Tryz.prog 139 [.agg [cI x.bus,cI x.kind,cI x.power,cI x.bp,cI x.ohm],sD (k8 x1 u0 u1 u2)] [] (fun r=>(vB r)) (fun _=>[]) (uK x x1 u0 u1 u2):=
  eF tT mX Tryz.func139 (
  .rg {fr:=[(0,1)],fz:=[1]} []<| .cl 2 (Aw x x1 u0 u1 u2) fun r_=> .r<| .e (!r_))
section
variable (s_:List Source) (f_:Int) (u0:List Source) (u1:List Link) (u2:List aL) (t8:Int)
abbrev k10:List SV:=[sD (k3 s_),sD (.fn 139 1 (yD [k8 f_ u0 u1 u2]))]
abbrev k11:=(IntKind.wrap .i64 (t8+1))
end
theorem yB (s_:List Source) (f_:Int) (u0:List Source) (u1:List Link) (u2:List aL):dN Tryz.prog 172 (k10 s_ f_ u0 u1 u2) [] (fun r=>(vI r)) (fun _=>[]) (oK s_ f_ u0 u1 u2):=
  eF tT mX Tryz.func172 (
  .r<| .r<| .lp (σ:=Int) (β:=Unit) (0) [] [] ⟨[0,1,7],[],fun t8=>[(8,vI t8)],fun t8=>[]⟩ ⟨[],[],fun _=>[],fun _=>[]⟩
  (fun t8=> .r<| .it (.r<| .cl 5 (Cz (at' s_ t8.toNat) f_ u0 u1 u2) fun r_=> .a1 ((0:Int)<=t8/\t8<(s_.length:Int))<| .rg {} [0,1]<| .it (.r<| .e (.done (.ret t8)))
  (.r<| .e (.next (k11 t8))))
  (.e (.done (.brk ()))))
  (fun _=> .r<| .e (-1)))
theorem vZ (s_:List Source) (f_:Int) (u0:List Source) (u1:List Link) (u2:List aL):dN Tryz.prog 138 (k10 s_ f_ u0 u1 u2) [] (fun r=>(vB r)) (fun _=>[]) (iY s_ f_ u0 u1 u2):=
  eF tT mX Tryz.func138 (
  .r<| .cl 2 (yB s_ f_ u0 u1 u2) fun r_=> .r<| .e (decide (0<=r_)))
theorem EF (l:List Source) (u0:Int) (u1:Int) (u2:List Source) (u3:List Link) (u4:List aL):dN Tryz.prog 92 [sD (k3 l),sI u0,sD (.fn 140 1 (k9 u1 u2 u3 u4))] [] (fun r=>(vB r)) (fun _=>[]) (sS l u0 u1 u2 u3 u4):=
  eF tT mX Tryz.func92 (
  .rg {fr:=[(0,1)],fz:=[1]} []<| .cg 7 [(decide ((l.length:Int)<=u0),true)] (vZ l u1 u2 u3 u4) fun r_=> .r<| .e (bif (decide ((l.length:Int)<=u0))then(!r_)else false))
section
variable (x:Link) (u0:Int)
abbrev k12:List CV:=[cI x.a,cI x.b,cI x.kind,cI x.most,cI x.ohm,.d (aZ none 2 kJ.cell x.trip)]
abbrev k13:=(decide (((at' x.trip u0.toNat).br)<=((at' x.trip ((k6 u0).toNat)).br)),false)
end
theorem Dg (x:Link) (x1:Int) (u3:List Source) (u4:List Link) (u5:List aL):dN Tryz.prog 143 [.agg (k12 x),sD (k2 u3 u4 u5 x1)] [] (fun r=>(vB r)) (fun _=>[]) (qo x x1 u3 u4 u5):=
  eF tT mX Tryz.func143 (
  .rg {fr:=[(0,5)]} []<| .cl 5 (aK x.a 0 (k6 x1)) fun r_=> .cg 13 [(!r_,false)] (aK x.b 0 (k6 x1)) fun u1=> .cg 26 [((bif (bif (!r_)then true else(!u1))then true else(decide (x.a=x.b))),false)] (aK x.kind 1 3) fun u6=> .cg 32 [((bif (bif (bif (!r_)then true else(!u1))then true else(decide (x.a=x.b)))then true else(!u6)),false)] (aK x.most 1 100000) fun u8=> .cg 38 [((bif (bif (bif (bif (!r_)then true else(!u1))then true else(decide (x.a=x.b)))then true else(!u6))then true else(!u8)),false)] (aK x.ohm 10 100000) fun u9=> .r<| .it (.r<| .e false)
  (.rg {fz:=[5]} []<| .lp (σ:=Int) (β:=Unit) (0) [] [] ⟨[2,48,49],[],fun u0=>[(50,vI u0)],fun u0=>[]⟩ ⟨[2],[],fun _=>[],fun _=>[]⟩
  (fun u0=> .r<| .it (.a1 ((0:Int)<=u0/\u0<(x.trip.length:Int))<| .rg {fr:=[(3,9)],fz:=[9]} []<| .cl 2 (aK ((at' x.trip u0.toNat).br) 1 1000000) fun u2=> .cg 7 [(!u2,false)] (aK ((at' x.trip u0.toNat).bj) 1 100000) fun u7=> .a2 ((gB [(decide (0<u0),true),((bif (!u2)then true else(!u7)),false)]=true->(0:Int)<=(k6 u0)/\(k6 u0)<(x.trip.length:Int))) ((gB [k13 x u0,(decide (0<u0),true),((bif (!u2)then true else(!u7)),false)]=true->(0:Int)<=(k6 u0)/\(k6 u0)<(x.trip.length:Int)))<| .rg {} [3,2,0,1]<| .it (.r<| .e (.done (.ret false)))
  (.r<| .e (.next (k11 u0))))
  (.e (.done (.brk ()))))
  (fun _=> .r<| .e (bif (decide ((x.trip.length:Int)<=6))then(bif (decide ((x.trip.length:Int)=0))then true else(decide (x.kind=3)))else false))))
section
variable (x1:Int) (u0:List Source) (u1:List Link) (u2:List aL)
abbrev k14:DV:=(Jm [.fn 143 1 (k9 x1 u0 u1 u2)] 0)
end
theorem zQ (x:Link) (x1:Int) (u0:List Source) (u1:List Link) (u2:List aL):dN Tryz.prog 142 [.agg (k12 x),sD (k14 x1 u0 u1 u2)] [] (fun r=>(vB r)) (fun _=>[]) (p9 x x1 u0 u1 u2):=
  eF tT mX Tryz.func142 (
  .rg {fr:=[(0,1)],fz:=[1]} []<| .cl 2 (Dg x x1 u0 u1 u2) fun r_=> .r<| .e (!r_))
section
variable (s_:List Link) (f_:Int) (u0:List Source) (u1:List Link) (u2:List aL) (t8:Int)
abbrev k15:List SV:=[sD (k4 s_),sD (.fn 142 1 (yD [k14 f_ u0 u1 u2]))]
abbrev k16:=((0:Int)<=t8/\t8<(s_.length:Int))
end
theorem vQ (s_:List Link) (f_:Int) (u0:List Source) (u1:List Link) (u2:List aL):dN Tryz.prog 173 (k15 s_ f_ u0 u1 u2) [] (fun r=>(vI r)) (fun _=>[]) (lZ s_ f_ u0 u1 u2):=
  eF tT mX Tryz.func173 (
  .r<| .r<| .lp (σ:=Int) (β:=Unit) (0) [] [] ⟨[0,1,7],[],fun t8=>[(8,vI t8)],fun t8=>[]⟩ ⟨[],[],fun _=>[],fun _=>[]⟩
  (fun t8=> .r<| .it (.r<| .cl 5 (zQ (at' s_ t8.toNat) f_ u0 u1 u2) fun r_=> .a1 (k16 s_ t8)<| .rg {} [0,1]<| .it (.r<| .e (.done (.ret t8)))
  (.r<| .e (.next (k11 t8))))
  (.e (.done (.brk ()))))
  (fun _=> .r<| .e (-1)))
theorem sU (s_:List Link) (f_:Int) (u0:List Source) (u1:List Link) (u2:List aL):dN Tryz.prog 141 (k15 s_ f_ u0 u1 u2) [] (fun r=>(vB r)) (fun _=>[]) (gQ s_ f_ u0 u1 u2):=
  eF tT mX Tryz.func141 (
  .r<| .cl 2 (vQ s_ f_ u0 u1 u2) fun r_=> .r<| .e (decide (0<=r_)))
theorem Cy (l:List Link) (u0:Int) (u1:Int) (u2:List Source) (u3:List Link) (u4:List aL):dN Tryz.prog 94 [sD (k4 l),sI u0,sD (.fn 143 1 (k9 u1 u2 u3 u4))] [] (fun r=>(vB r)) (fun _=>[]) (pM l u0 u1 u2 u3 u4):=
  eF tT mX Tryz.func94 (
  .rg {fr:=[(0,1)],fz:=[1]} []<| .cg 7 [(decide ((l.length:Int)<=u0),true)] (sU l u1 u2 u3 u4) fun r_=> .r<| .e (bif (decide ((l.length:Int)<=u0))then(!r_)else false))
section
variable (x:aL)
abbrev k17:List CV:=[cI x.ba.e0,cI x.ba.e1,cI x.power,cI x.bm]
end
theorem D6 (x:aL):dN Tryz.prog 147 [.agg (k17 x)] [] (fun r=>(vI r)) (fun _=>[]) (qW x):=
  eF tT mX Tryz.func147 (
  .rg {fr:=[(0,1)],fz:=[1]} []<| .rg {} [.pf ⟨(0:Int)<=1/\(1:Int)<(2:Nat),(by decide)⟩]<| .it (.r<| .e 1)
  (.r<| .e 2))
section
variable (r_:Bool) (u0:Bool) (x:aL) (u1:Bool)
abbrev k19:=(bif (bif (bif r_ then u0 else false)then(!decide (x.ba.e0=x.ba.e1))else false)then u1 else false)
abbrev k18:=(k19 r_ u0 x u1,true)
end
theorem Cx (x:aL) (x1:Int) (u2:List Source) (u3:List Link) (u4:List aL):dN Tryz.prog 146 [.agg (k17 x),sD (k2 u2 u3 u4 x1)] [] (fun r=>(vB r)) (fun _=>[]) (qp x x1 u2 u3 u4):=
  eF tT mX Tryz.func146 (
  .rg {fr:=[(0,1)],fz:=[1]} []<| .rg {} [.pf ⟨(0:Int)<=0/\(0:Int)<(2:Nat),(by decide)⟩, .pf ⟨(0:Int)<=1/\(1:Int)<(2:Nat),(by decide)⟩]<| .cl 4 (aK x.ba.e0 0 (k6 x1)) fun r_=> .cg 10 [(r_,true)] (aK x.ba.e1 (-1) (k6 x1)) fun u0=> .cg 20 [((bif (bif r_ then u0 else false)then(!decide (x.ba.e0=x.ba.e1))else false),true)] (aK x.power 1 100000) fun u1=> .cg 26 [k18 r_ u0 x u1] (D6 x) fun u5=> .cg 27 [k18 r_ u0 x u1] (aK x.bm 0 u5) fun u6=> .r<| .e (bif (k19 r_ u0 x u1)then u6 else false))
section
variable (x1:Int) (u0:List Source) (u1:List Link) (u2:List aL)
abbrev k20:DV:=(Jm [.fn 146 1 (k9 x1 u0 u1 u2)] 0)
end
theorem yR (x:aL) (x1:Int) (u0:List Source) (u1:List Link) (u2:List aL):dN Tryz.prog 145 [.agg (k17 x),sD (k20 x1 u0 u1 u2)] [] (fun r=>(vB r)) (fun _=>[]) (qf x x1 u0 u1 u2):=
  eF tT mX Tryz.func145 (
  .rg {fr:=[(0,1)],fz:=[1]} []<| .cl 2 (Cx x x1 u0 u1 u2) fun r_=> .r<| .e (!r_))
section
variable (s_:List aL) (f_:Int) (u0:List Source) (u1:List Link) (u2:List aL)
abbrev k21:List SV:=[sD (k5 s_),sD (.fn 145 1 (yD [k20 f_ u0 u1 u2]))]
end
theorem vR (s_:List aL) (f_:Int) (u0:List Source) (u1:List Link) (u2:List aL):dN Tryz.prog 174 (k21 s_ f_ u0 u1 u2) [] (fun r=>(vI r)) (fun _=>[]) (lT s_ f_ u0 u1 u2):=
  eF tT mX Tryz.func174 (
  .r<| .r<| .lp (σ:=Int) (β:=Unit) (0) [] [] ⟨[0,1,7],[],fun t8=>[(8,vI t8)],fun t8=>[]⟩ ⟨[],[],fun _=>[],fun _=>[]⟩
  (fun t8=> .r<| .it (.r<| .cl 5 (yR (⟨(at' s_ t8.toNat).ba,(at' s_ t8.toNat).power,(at' s_ t8.toNat).bm⟩:aL) f_ u0 u1 u2) fun r_=> .a1 ((0:Int)<=t8/\t8<(s_.length:Int))<| .rg {} [0,1]<| .it (.r<| .e (.done (.ret t8)))
  (.r<| .e (.next (k11 t8))))
  (.e (.done (.brk ()))))
  (fun _=> .r<| .e (-1)))
theorem sQ (s_:List aL) (f_:Int) (u0:List Source) (u1:List Link) (u2:List aL):dN Tryz.prog 144 (k21 s_ f_ u0 u1 u2) [] (fun r=>(vB r)) (fun _=>[]) (gM s_ f_ u0 u1 u2):=
  eF tT mX Tryz.func144 (
  .r<| .cl 2 (vR s_ f_ u0 u1 u2) fun r_=> .r<| .e (decide (0<=r_)))
theorem Da (l:List aL) (u0:Int) (u1:Int) (u2:List Source) (u3:List Link) (u4:List aL):dN Tryz.prog 96 [sD (k5 l),sI u0,sD (.fn 146 1 (k9 u1 u2 u3 u4))] [] (fun r=>(vB r)) (fun _=>[]) (qx l u0 u1 u2 u3 u4):=
  eF tT mX Tryz.func96 (
  .rg {fr:=[(0,1)],fz:=[1]} []<| .cg 7 [(decide ((l.length:Int)<=u0),true)] (sQ l u1 u2 u3 u4) fun r_=> .r<| .e (bif (decide ((l.length:Int)<=u0))then(!r_)else false))
theorem wU (p:ah):dN Tryz.prog 46 (k0 p) [] (fun r=>(vI r)) (fun _=>[]) (nX p):=
  eF tT mX Tryz.func46 (
  .rg {fr:=[(0,1)],fz:=[1]} []<| .cl 2 (aK p.ap 1 24) fun r_=> .r<| .it (.r<| .e 10)
  (.cl 3 (Cb p) fun u0=> .cl 4 (EF p.aa 8 u0.1 u0.2.1 u0.2.2.1 u0.2.2.2) fun u3=> .r<| .it (.r<| .e 11)
  (.cl 3 (EG p) fun u1=> .cl 4 (Cy p.ae 40 u1.1 u1.2.1 u1.2.2.1 u1.2.2.2) fun u4=> .r<| .it (.r<| .e 12)
  (.cl 3 (EN p) fun u2=> .cl 4 (Da p.a_ 24 u2.1 u2.2.1 u2.2.2.1 u2.2.2.2) fun u5=> .r<| .it (.r<| .e 13)
  (.r<| .e 0)))))
section
variable (s_:State) (p:ah) (u0:Int)
abbrev k24:DV:=(aZ none 1 af s_.ag)
abbrev k23:List CV:=[.d (aZ none 1 af s_.aq),.d (aZ none 1 af s_.aw),.d (aZ none 1 af s_.am),.d (aZ none 1 af s_.on_),.d (k24 s_),.d (aZ none 1 af s_.ar),.d (aZ none 1 af s_.al)]
abbrev k22:List SV:=[.agg (k1 p),.agg (k23 s_)]
abbrev k25:=(⟨s_.aq,(p.ae.length:Int)⟩:cK)
abbrev k26:=(⟨s_.aw,(p.ae.length:Int)⟩:cK)
abbrev k27:=(⟨s_.am,(p.ae.length:Int)⟩:cK)
abbrev k28:=(⟨s_.on_,(p.aa.length:Int)⟩:cK)
abbrev ZL:=(⟨s_.ag,(p.aa.length:Int)⟩:cK)
abbrev k30:=(aj cK.cell [k25 s_ p,k26 s_ p,k27 s_ p,k28 s_ p,ZL s_ p,(⟨s_.ar,p.ap⟩:cK),(⟨s_.al,p.ap⟩:cK)])
abbrev Zd:=((0:Int)<=u0/\u0<(p.ae.length:Int))
abbrev k32:=((gB [(decide (((at' p.ae u0.toNat).kind)=1),true)]=true->(0:Int)<=u0/\u0<(s_.aq.length:Int)))
abbrev k33:=((gB [(!(at' s_.aq u0.toNat),false),(decide (((at' p.ae u0.toNat).kind)=1),true)]=true->(0:Int)<=u0/\u0<(s_.aw.length:Int)))
end
theorem eT (p:ah) (s_:State):dN Tryz.prog 10 (k22 s_ p) [] (fun r=>(vI r)) (fun _=>[]) (dV p s_):=
  eF tT mX Tryz.func10 (
  .rg {fr:=[(0,11),(1,12)]} []<| .cl 1 (wU p) fun r_=> .r<| .r<| .it (.r<| .e r_)
  (.r<| .rg {an:=[(30, .arr [k25 s_ p,k26 s_ p,k27 s_ p,k28 s_ p,ZL s_ p,(⟨s_.ar,p.ap⟩:cK),(⟨s_.al,p.ap⟩:cK)].length (k30 s_ p))],fr:=[(30,13)],fz:=[12]} [.pf ⟨[k25 s_ p,k26 s_ p,k27 s_ p,k28 s_ p,ZL s_ p,(⟨s_.ar,p.ap⟩:cK),(⟨s_.al,p.ap⟩:cK)].length=7,rfl⟩, .pf ⟨aF 7 2 (lS 2 [aZ none 1 af s_.aq,.int .i64 (p.ae.length:Int),aZ none 1 af s_.aw,.int .i64 (p.ae.length:Int),aZ none 1 af s_.am,.int .i64 (p.ae.length:Int),aZ none 1 af s_.on_,.int .i64 (p.aa.length:Int),k24 s_,.int .i64 (p.aa.length:Int),aZ none 1 af s_.ar,.int .i64 p.ap,aZ none 1 af s_.al,.int .i64 p.ap]) (k30 s_ p),(by intro i hi j hj;match i,j,hi,hj with|0,0,_,_=>rfl|0,1,_,_=>rfl|1,0,_,_=>rfl|1,1,_,_=>rfl|2,0,_,_=>rfl|2,1,_,_=>rfl|3,0,_,_=>rfl|3,1,_,_=>rfl|4,0,_,_=>rfl|4,1,_,_=>rfl|5,0,_,_=>rfl|5,1,_,_=>rfl|6,0,_,_=>rfl|6,1,_,_=>rfl)⟩]<| .lp (σ:=Int) (β:=Unit) (0) [] [] ⟨[2,3,53,54],[11,13],fun u1=>[(55,vI u1)],fun u1=>[]⟩ ⟨[2,3],[11],fun _=>[],fun _=>[]⟩
  (fun u1=> .r<| .it (.a1 ((0:Int)<=u1/\u1<([k25 s_ p,k26 s_ p,k27 s_ p,k28 s_ p,ZL s_ p,(⟨s_.ar,p.ap⟩:cK),(⟨s_.al,p.ap⟩:cK)].length:Int))<| .rg {fr:=[(2,17)],fz:=[17]} [0, .t 0 u1 ([k25 s_ p,k26 s_ p,k27 s_ p,k28 s_ p,ZL s_ p,(⟨s_.ar,p.ap⟩:cK),(⟨s_.al,p.ap⟩:cK)].length)]<| .r<| .it (.r<| .e (.done (.ret 9)))
  (.r<| .e (.next (k11 u1))))
  (.e (.done (.brk ()))))
  (fun _=> .r<| .lp (σ:=Int) (β:=Unit) (0) [] [] ⟨[3,67,68],[],fun u0=>[(69,vI u0)],fun u0=>[]⟩ ⟨[],[],fun _=>[],fun _=>[]⟩
  (fun u0=> .r<| .it (.a1 (Zd p u0)<| .rg {fr:=[(3,21)],fz:=[21]} []<| .a2 (k32 s_ p u0) (k33 s_ p u0)<| .rg {} [0,1]<| .it (.r<| .e (.done (.ret 9)))
  (.r<| .e (.next (k11 u0))))
  (.e (.done (.brk ()))))
  (fun _=> .r<| .e 0))))
theorem mM (i:Int) (x1:Int) (u1:List Source) (u0:List Link) (u2:List aL):dN Tryz.prog 98 [sI i,sD (k2 u1 u0 u2 x1)] [] (fun r=>(vB r)) (fun _=>[]) (j4 i x1 u1 u0 u2):=
  eF tT mX Tryz.func98 (
  .r<| .a1 ((gB [((bif (decide (0<=i))then(decide (i<(u0.length:Int)))else false),true)]=true->(0:Int)<=i/\i<(u0.length:Int)))<| .r<| .e (bif (bif (decide (0<=i))then(decide (i<(u0.length:Int)))else false)then(!decide (((at' u0 i.toNat).kind)=1))else false))
section
variable (x2:Int) (u0:List Source) (u1:List Link) (u2:List aL)
abbrev k34:DV:=(Jm [.fn 98 1 (k9 x2 u0 u1 u2)] 0)
end
theorem uP (x:Transfer) (x1:Int) (u3:List Source) (u4:List Link) (u5:List aL) (x2:Int) (u0:List Source) (u1:List Link) (u2:List aL):dN Tryz.prog 100 [.agg [cI x.bi,cI x.open_,cI x.close],sD (k2 u3 u4 u5 x1),sD (k34 x2 u0 u1 u2)] [] (fun r=>(vB r)) (fun _=>[]) (o8 x x1 u3 u4 u5 x2 u0 u1 u2):=
  eF tT mX Tryz.func100 (
  .rg {fr:=[(0,1)],fz:=[1]} []<| .cg 14 [((bif (decide (x.bi<0))then true else(decide (x1<=x.bi))),false)] (mM x.close x2 u0 u1 u2) fun r_=> .cg 25 [(!decide (x.open_=(-1)),true),((bif (bif (decide (x.bi<0))then true else(decide (x1<=x.bi)))then true else(!r_)),false)] (mM x.open_ x2 u0 u1 u2) fun u6=> .r<| .e (bif (bif (bif (decide (x.bi<0))then true else(decide (x1<=x.bi)))then true else(!r_))then true else(bif (!decide (x.open_=(-1)))then(bif (!u6)then true else(decide (x.open_=x.close)))else false)))
section
variable (s_:List Transfer) (f_:Int) (u0:List Source) (u1:List Link) (u2:List aL) (u3:Int) (u4:List Source) (u5:List Link) (u6:List aL)
abbrev k35:List SV:=[sD (aZ none 3 Transfer.cell s_),sD (.fn 100 2 (yD [k2 u0 u1 u2 f_,k34 u3 u4 u5 u6]))]
end
theorem vV (s_:List Transfer) (f_:Int) (u0:List Source) (u1:List Link) (u2:List aL) (u3:Int) (u4:List Source) (u5:List Link) (u6:List aL):dN Tryz.prog 148 (k35 s_ f_ u0 u1 u2 u3 u4 u5 u6) [] (fun r=>(vI r)) (fun _=>[]) (qF s_ f_ u0 u1 u2 u3 u4 u5 u6):=
  eF tT mX Tryz.func148 (
  .r<| .r<| .lp (σ:=Int) (β:=Unit) (0) [] [] ⟨[0,1,7],[],fun t8=>[(8,vI t8)],fun t8=>[]⟩ ⟨[],[],fun _=>[],fun _=>[]⟩
  (fun t8=> .r<| .it (.r<| .cl 5 (uP (at' s_ t8.toNat) f_ u0 u1 u2 u3 u4 u5 u6) fun r_=> .a1 ((0:Int)<=t8/\t8<(s_.length:Int))<| .rg {} [0,1]<| .it (.r<| .e (.done (.ret t8)))
  (.r<| .e (.next (k11 t8))))
  (.e (.done (.brk ()))))
  (fun _=> .r<| .e (-1)))
theorem uN (s_:List Transfer) (f_:Int) (u0:List Source) (u1:List Link) (u2:List aL) (u3:Int) (u4:List Source) (u5:List Link) (u6:List aL):dN Tryz.prog 99 (k35 s_ f_ u0 u1 u2 u3 u4 u5 u6) [] (fun r=>(vB r)) (fun _=>[]) (oZ s_ f_ u0 u1 u2 u3 u4 u5 u6):=
  eF tT mX Tryz.func99 (
  .r<| .cl 2 (vV s_ f_ u0 u1 u2 u3 u4 u5 u6) fun r_=> .r<| .e (decide (0<=r_)))
section
variable (p:ah) (s_:State) (l:List Transfer)
abbrev k36:List SV:=[.agg (k1 p),.agg (k23 s_),sD (aZ none 3 Transfer.cell l)]
end
theorem nZ (p:ah) (s_:State) (l:List Transfer):dN Tryz.prog 48 (k36 p s_ l) [] (fun r=>(vI r)) (fun _=>[]) (lU p s_ l):=
  eF tT mX Tryz.func48 (
  .rg {fr:=[(0,3),(1,4)],fz:=[4]} []<| .cl 2 (eT p s_) fun r_=> .r<| .r<| .it (.r<| .e r_)
  (.rg {fr:=[(1,5)],fz:=[3]} []<| .fz [5]<| .cg 6 [(decide (16<(l.length:Int)),false)] (uN l p.ap p.aa p.ae p.a_ p.ap p.aa p.ae p.a_) fun u0=> .r<| .it (.r<| .e 1)
  (.r<| .e 0)))
section
variable (s_:List Bool)
abbrev k37:=(aj af (([]:List Bool)++s_))
end
theorem rD (s_:List Bool) (u0:Bool):dN Tryz.prog 101 [sD (aZ (some u0) 1 af s_)] [] (fun r=>(vO 0 false r.length)) (fun r=>[(0,some (aW 4 1 af r))]) (tX s_ u0):=
  eF tT mX Tryz.func101 (
  .r<| .r<| .it (.r<| .im (.ad 2 2 4 1 (aj af ([]:List Bool)))<| .en ([]:List Bool) [] [(2,0)])
  (.a2 ((([]:List Bool).length+s_.length)*1<=140737488355328) (([]:List Bool).length+s_.length<=4611686018427387904)<| .rg {an:=[(0, .arr ([]:List Bool).length (aj af ([]:List Bool))),(2, .arr (([]:List Bool)++s_).length (k37 s_))],fr:=[(0,3),(2,4)]} [.pf ⟨([]:List Bool).length=0,rfl⟩, .pf ⟨aF 0 1 (lS 1 []) (aj af ([]:List Bool)),(fun i hi=>absurd hi (cM i))⟩, .e (([]:List Bool).length),0,1, .pf ⟨(([]:List Bool)++s_).length=([]:List Bool).length+s_.length,cd⟩, .pf ⟨aF (([]:List Bool).length+s_.length) 1 (nY (aj af ([]:List Bool)) ([]:List Bool).length (aj af s_)) (k37 s_),bD _ _ _ _⟩]<| .en (([]:List Bool)++s_) [] [(4,0)]))
theorem aP (s:List Bool) {r:List Bool} (h:aX s=some r):Fn Tryz.prog 101 [sD (aZ none 1 af s)] [] (vO 0 false r.length) [(0,some (aW 4 1 af r))]:=by
 refine Fn.nn (rD s true h) fun hl=> ?_
 have hs:s=[]:=List.eq_nil_of_length_eq_zero hl
 subst hs
 exact rD [] false (by rw [<-h];kernel_rfl)
section
variable (s_:State)
abbrev k38:List SV:=[.agg (k23 s_)]
end
theorem zb (s_:State):dN Tryz.prog 49 (k38 s_) [] (fun r=>(.v (.agg [.own 0 false r.aq.length,.own 1 false r.aw.length,.own 2 false r.am.length,.own 3 false r.on_.length,.own 4 false r.ag.length,.own 5 false r.ar.length,.own 6 false r.al.length]))) (fun r=>[(0,some (aW 4 1 af r.aq)),(1,some (aW 4 1 af r.aw)),(2,some (aW 4 1 af r.am)),(3,some (aW 4 1 af r.on_)),(4,some (aW 4 1 af r.ag)),(5,some (aW 4 1 af r.ar)),(6,some (aW 4 1 af r.al)),(7,none)]) (zA s_):=
  eF tT mX Tryz.func49 (
  .rg {fr:=[(0,10),(1,11)]} []<| .rg {an:=[(7, .cells)],fr:=[(7,12)]} []<| .ul 11<| .r<| .t<| .a1 ((0:Int)<=0/\0<(7:Int))<| .r<| .cl 4 (mr [(0,13)] ⟨fun h=>aP s_.aq h⟩) fun r_=> .r<| .r<| .im (.dp [1,2,12,13,14])<| .r<| .t<| .a1 ((0:Int)<=1/\1<(7:Int))<| .r<| .cl 4 (mr [(0,14)] ⟨fun h=>aP s_.aw h⟩) fun u0=> .r<| .r<| .im (.dp [1,2,12,13,14])<| .r<| .t<| .a1 ((0:Int)<=2/\2<(7:Int))<| .r<| .cl 4 (mr [(0,15)] ⟨fun h=>aP s_.am h⟩) fun u1=> .r<| .r<| .im (.dp [1,2,12,13,14])<| .r<| .t<| .a1 ((0:Int)<=3/\3<(7:Int))<| .r<| .cl 4 (mr [(0,16)] ⟨fun h=>aP s_.on_ h⟩) fun u2=> .r<| .r<| .im (.dp [1,2,12,13,14])<| .r<| .t<| .a1 ((0:Int)<=4/\4<(7:Int))<| .r<| .cl 4 (mr [(0,17)] ⟨fun h=>aP s_.ag h⟩) fun u3=> .r<| .r<| .im (.dp [1,2,12,13,14])<| .r<| .t<| .a1 ((0:Int)<=5/\5<(7:Int))<| .r<| .cl 4 (mr [(0,18)] ⟨fun h=>aP s_.ar h⟩) fun u4=> .r<| .r<| .im (.dp [1,2,12,13,14])<| .r<| .t<| .a1 ((0:Int)<=6/\6<(7:Int))<| .r<| .cl 4 (mr [(0,19)] ⟨fun h=>aP s_.al h⟩) fun u5=> .r<| .r<| .im (.dp [1,2,12,13,14])<| .r<| .f<| .r<| .en (⟨r_,u0,u1,u2,u3,u4,u5⟩:State) [] [(13,0),(14,1),(15,2),(16,3),(17,4),(18,5),(19,6),(11,7)])
section
variable (s_:State)
abbrev k39:List CV:=[.own 0 false s_.aq.length,.own 1 false s_.aw.length,.own 2 false s_.am.length,.own 3 false s_.on_.length,.own 4 false s_.ag.length,.own 5 false s_.ar.length,.own 6 false s_.al.length]
abbrev Xx:Nat × Option Ob:=(0,some (aW 4 1 af s_.aq))
abbrev MW:Nat × Option Ob:=(1,some (aW 4 1 af s_.aw))
abbrev Lx:Nat × Option Ob:=(2,some (aW 4 1 af s_.am))
abbrev LK:Nat × Option Ob:=(3,some (aW 4 1 af s_.on_))
abbrev LU:Nat × Option Ob:=(4,some (aW 4 1 af s_.ag))
abbrev Lf:Nat × Option Ob:=(5,some (aW 4 1 af s_.ar))
abbrev MF:Nat × Option Ob:=(6,some (aW 4 1 af s_.al))
abbrev k40:List (Nat × Option Ob):=[Xx s_,MW s_,Lx s_,LK s_,LU s_,Lf s_,MF s_]
end
theorem zw (p:ah) (s_:State) (l:List Transfer):dN Tryz.prog 50 [.agg (k1 p),.agg (k39 s_),sD (aZ none 3 Transfer.cell l)] (k40 s_) (fun r=>(.v (.one (.fn 102 0 3 (Ut [.d (Jm [aZ none 3 Transfer.cell r.1] 0),.d (Jm [.int .i64 r.2.1,aZ none 5 Source.cell r.2.2.1,aZ none 6 Link.cell r.2.2.2.1,aZ none 4 aL.cell r.2.2.2.2.1] 0),.ptr 7 0]))))) (fun r=>[Xx s_,MW s_,Lx s_,LK s_,LU s_,Lf s_,MF s_,(7,some (.cells 29 (k39 s_)))]) (vz p s_ l):=
  eF tT mX Tryz.func50 (
  .rg {fr:=[(0,10),(1,11),(2,12)],fz:=[10,12]} []<| .r<| .en (l,p.ap,p.aa,p.ae,p.a_,s_) [] [(11,7)])
noncomputable def jy:jw:=⟨[28,29],R5 ([1,1,1,1,0,1,0]++[0]) (xK Tryz.f13),R5 ([1,1,1,1,0,1,0]++[1]) (xK Tryz.f13),37,[]⟩
theorem yw (p:ah) (s_:State):dN Tryz.prog 104 (k22 s_ p) [] (fun r=>(vD (.fn 152 2 (yD [Jm [.int .i64 r.1,aZ none 5 Source.cell r.2.1,aZ none 6 Link.cell r.2.2.1,aZ none 4 aL.cell r.2.2.2.1] 0,Jm [aZ none 1 af r.2.2.2.2.1,aZ none 1 af r.2.2.2.2.2.1,aZ none 1 af r.2.2.2.2.2.2.1,aZ none 1 af r.2.2.2.2.2.2.2.1,aZ none 1 af r.2.2.2.2.2.2.2.2.1,aZ none 1 af r.2.2.2.2.2.2.2.2.2.1,aZ none 1 af r.2.2.2.2.2.2.2.2.2.2] 0])))) (fun _=>[]) (oN p s_):=
  eF tT mX Tryz.func104 (
  .rg {fr:=[(0,2),(1,3)],fz:=[2,3]} []<| .r<| .e (p.ap,p.aa,p.ae,p.a_,s_.aq,s_.aw,s_.am,s_.on_,s_.ag,s_.ar,s_.al))
noncomputable def uO:jw:=⟨[22],R5 ([1,1,0,1,0]++[0]) (xK Tryz.f51),R5 ([1,1,0,1,0]++[1]) (xK Tryz.f51),125,[]⟩
section
variable (g:aY)
abbrev k48:List (Nat × Option Ob):=[(0,some (Kw 3 3 false false 1 1 (aH .i64) (aH .i64) g.bk))]
end
theorem gX (g:aY) (x:Int):dN Tryz.prog 106 [.agg [.mp 0],sI x] (k48 g) (fun r=>(vI r)) (fun r=>(k48 g)) (dm g x):=
  eF tT mX Tryz.func106 (
  .rg {fr:=[(0,2)]} []<| .lp (σ:=Int) (β:=Unit) (x) [] [] ⟨[2],[0,2],fun x1=>[(1,vI x1)],fun x1=>[]⟩ ⟨[],[],fun _=>[],fun _=>[]⟩
  (fun x1=> .rg {an:=[(3, .look (bA cZ x1 g.bk).isSome [cI ((bA cZ x1 g.bk).getD 0)])]} [.pf ⟨kR [some .i64] 1 1 g.bk.length (yJ (aH .i64) g.bk) (yM (aH .i64) g.bk) [.int .i64 x1] [.d (.int .i64 0)] (bA cZ x1 g.bk).isSome [cI ((bA cZ x1 g.bk).getD 0)],lH (fun _=>rfl) (fun _ _=>rfl) g.bk x1 0 rfl rfl rfl⟩]<| .r<| .it (.r<| .e (.done (.ret x1)))
  (.r<| .e (.next ((bA cZ x1 g.bk).getD 0))))
  (fun _=> .no))
theorem xW (g:aY) (a:Int) (b:Int):dN Tryz.prog 105 [.agg [.mp 0],sI a,sI b] (k48 g) (fun r=>(.fF [])) (fun r=>[(0,some (Kw 3 3 false false 1 1 (aH .i64) (aH .i64) r))]) (jT g a b):=
  eF tT mX Tryz.func105 (
  .rg {fr:=[(0,2)]} []<| .cr 2 (gX g a) fun r_=> .cr 5 (gX g b) fun u0=> .r<| .r<| .it (.rg {an:=[(4, .map (gW cZ r_ u0 g.bk).length (yJ (aH .i64) (gW cZ r_ u0 g.bk)) (yM (aH .i64) (gW cZ r_ u0 g.bk)) [])]} [.pf ⟨qY [some .i64] 1 1 g.bk.length (yJ (aH .i64) g.bk) (yM (aH .i64) g.bk) [.int .i64 r_] [cI u0] [] (gW cZ r_ u0 g.bk).length (yJ (aH .i64) (gW cZ r_ u0 g.bk)) (yM (aH .i64) (gW cZ r_ u0 g.bk)),FH (fun _=>rfl) (fun _ _=>rfl) g.bk r_ u0 rfl rfl⟩]<| .e (gW cZ r_ u0 g.bk))
  (.e g.bk))
section
variable (o_:aY)
abbrev k50:Nat × Option Ob:=(0,some (.loop uO 0 [(5,vP 1 0)]))
abbrev k49:List (Nat × Option Ob):=[k50,(1,some (.cells 178 [.mp 2])),(2,some (Kw 3 3 false false 1 1 (aH .i64) (aH .i64) o_.bk))]
end
theorem wD (u0:Int) (u1:Int) (u2:Int) (u3:Int) (u4:Int) (u5:List kJ) (o_:aY):YF Tryz.prog 0 [.agg [cI u0,cI u1,cI u2,cI u3,cI u4,.d (aZ none 2 kJ.cell u5)]] (k49 o_) (fun _=>vB true) (fun r=>[k50,(1,some (.cells 178 [.mp 2])),(2,some (Kw 3 3 false false 1 1 (aH .i64) (aH .i64) r.bk))]) (mF u0 u1 u2 u3 u4 u5 o_):=
  scY tT mX uO ⟨[5],[0,1,2],fun _=>[(6,vD (Jm [.int .i64 u0,.int .i64 u1,.int .i64 u2,.int .i64 u3,.int .i64 u4,aZ none 2 kJ.cell u5] 0))],fun _=>[]⟩ (.rg {fr:=[(0,4)],fz:=[4]} []<| .e ())
  (.cl 5 (mr [(0,2)] (xW o_ u0 u1)) fun r_=> .r<| .e (⟨r_⟩:aY))
section
variable (x2:List Bool) (u6:List Bool) (u2:List Bool) (u7:List Bool) (u8:List Bool) (u9:List Bool) (u1:List Bool) (t9:Int) (u0:List Link)
abbrev ZB:DV:=(Jm [aZ none 1 af x2,aZ none 1 af u6,aZ none 1 af u2,aZ none 1 af u7,aZ none 1 af u8,aZ none 1 af u9,aZ none 1 af u1] 0)
abbrev k52:=(bif (bif (at' x2 t9.toNat)then(!(at' u2 t9.toNat))else false)then(!(at' u1 (((at' u0 t9.toNat).a).toNat)))else false)
abbrev YL:=((0:Int)<=t9/\t9<(x2.length:Int))
abbrev k54:=((gB [((bif (at' x2 t9.toNat)then(!(at' u2 t9.toNat))else false),true)]=true->(0:Int)<=(at' u0 t9.toNat).a/\(at' u0 t9.toNat).a<(u1.length:Int)))
abbrev k55:=((gB [(k52 x2 u2 u1 t9 u0,true)]=true->(0:Int)<=(at' u0 t9.toNat).b/\(at' u0 t9.toNat).b<(u1.length:Int)))
end
theorem wP (x1:Int) (u4:List Source) (u0:List Link) (u5:List aL) (x2:List Bool) (u6:List Bool) (u2:List Bool) (u7:List Bool) (u8:List Bool) (u9:List Bool) (u1:List Bool) (o_:aY):dN Tryz.prog 152 [.one (.yl 0),sD (k2 u4 u0 u5 x1),sD (ZB x2 u6 u2 u7 u8 u9 u1)] (k49 o_) (fun r=>(.fF [])) (fun r=>[k50,(1,some (.cells 178 [.mp 2])),(2,some (Kw 3 3 false false 1 1 (aH .i64) (aH .i64) r.bk))]) (ni x1 u4 u0 u5 x2 u6 u2 u7 u8 u9 u1 o_):=
  eF tT mX Tryz.func152 (
  .r<| .lp (σ:=((List (Int × Int)) × Int)) (β:=(List (Int × Int))) (o_.bk,0) [] [] ⟨[0,2,7,8],[0,1],fun(u3,t9)=>[(9,vI t9)],fun(u3,t9)=>[(2,some (Kw 3 3 false false 1 1 (aH .i64) (aH .i64) u3))]⟩ ⟨[],[0,1],fun o501=>[],fun o501=>[(2,some (Kw 3 3 false false 1 1 (aH .i64) (aH .i64) o501))]⟩
  (fun(u3,t9)=> .r<| .it (.a1 (k16 u0 t9)<| .rg {fr:=[(3,10)],fz:=[10]} []<| .fk (bif (k52 x2 u2 u1 t9 u0)then(!(at' u1 (((at' u0 t9.toNat).b).toNat)))else false) (.cy 34 (wD ((at' u0 t9.toNat).a) ((at' u0 t9.toNat).b) ((at' u0 t9.toNat).kind) ((at' u0 t9.toNat).most) ((at' u0 t9.toNat).ohm) ((at' u0 t9.toNat).trip) (⟨u3⟩:aY)) fun r_=> .a4 (YL x2 t9) ((gB [(at' x2 t9.toNat,true)]=true->(0:Int)<=t9/\t9<(u2.length:Int))) (k54 x2 u2 u1 t9 u0) (k55 x2 u2 u1 t9 u0)<| .rg {ov:=[(31,true,5)]} [0,1,2,3, .k 4]<| .f<| .r<| .e (.next (r_.bk,k11 t9)))
  (.a4 (YL x2 t9) ((gB [(at' x2 t9.toNat,true)]=true->(0:Int)<=t9/\t9<(u2.length:Int))) (k54 x2 u2 u1 t9 u0) (k55 x2 u2 u1 t9 u0)<| .rg {ov:=[(31,false,4)],sk:=[32,33,34,35]} [0,1,2,3]<| .f<| .r<| .e (.next (u3,k11 t9))))
  (.e (.done (.brk u3))))
  (fun o501=> .e (⟨o501⟩:aY)))
section
variable (u1:List aI) (u2:List (Int × Int)) (u0:Int) (u3:Int) (u7:Int) (p:ah) (s_:State) (u5:List aI) (u6:Int) (u4:List (Int × Int))
abbrev k56:List (Nat × Option Ob):=[(60,some (.rows 122 2 u1.length (xJ aI.ev u1) none)),(61,some (Kw 3 3 false false 1 1 (aH .i64) (aH .i64) u2))]
abbrev HZ:=((bA cZ u0 u2).getD 0)
abbrev Zx:List CV:=[cI (HZ u2 u0)]
abbrev PD:=(gW cZ u0 (u1.length:Int) u2)
abbrev Vo:=(u1++[(⟨([]:List Int),([]:List Int)⟩:aI)])
abbrev k61:=(xJ aI.ev (Vo u1))
abbrev Wn:=((bA cZ u0 (PD u1 u2 u0)).getD 0)
abbrev k66:=((Wn u1 u2 u0).toNat)
abbrev k65:=(at' (Vo u1) (k66 u1 u2 u0))
abbrev XG:=((k65 u1 u2 u0).ap)
abbrev k63:=((XG u1 u2 u0).length+[u3].length)
abbrev ZA:=((XG u1 u2 u0)++[u3])
abbrev k68:=(aj (aH .i64) (ZA u1 u2 u0 u3))
abbrev k70:=((Vo u1).set (k66 u1 u2 u0) (⟨ZA u1 u2 u0 u3,(k65 u1 u2 u0).aa⟩:aI))
abbrev k69:=(xJ aI.ev (k70 u1 u2 u0 u3))
abbrev Vs:=((at' u1 ((HZ u2 u0).toNat)).ap)
abbrev ZF:=((Vs u1 u2 u0)++[u3])
abbrev k73:=(aj (aH .i64) (ZF u1 u2 u0 u3))
abbrev k75:=(u1.set ((HZ u2 u0).toNat) (⟨ZF u1 u2 u0 u3,(at' u1 ((HZ u2 u0).toNat)).aa⟩:aI))
abbrev k74:=(xJ aI.ev (k75 u1 u2 u0 u3))
abbrev k76:=((0:Int)<=u7/\u7<(p.aa.length:Int))
abbrev k77:=((gB [(at' s_.on_ u7.toNat,true)]=true->(0:Int)<=u7/\u7<(s_.ag.length:Int)))
abbrev k78:=((gB [((bif (at' s_.on_ u7.toNat)then(!(at' s_.ag u7.toNat))else false),true)]=true->(0:Int)<=(at' p.aa u7.toNat).bus/\(at' p.aa u7.toNat).bus<(s_.al.length:Int)))
abbrev VY:=((at' u5 ((HZ u4 u6).toNat)).aa)
abbrev ZC:=((VY u5 u6 u4)++[u7])
abbrev k81:=(aj (aH .i64) (ZC u7 u5 u6 u4))
abbrev k83:=(u5.set ((HZ u4 u6).toNat) (⟨(at' u5 ((HZ u4 u6).toNat)).ap,ZC u7 u5 u6 u4⟩:aI))
abbrev k82:=(xJ aI.ev (k83 u7 u5 u6 u4))
end
theorem oP (p:ah) (s_:State):dN Tryz.prog 51 (k22 s_ p) [] (fun r=>(vD (aZ none 2 aI.cell r))) (fun _=>[]) (lu p s_):=
  eF tT mX Tryz.func51 (
  .rg {fr:=[(0,55),(1,56)],fz:=[56]} []<| .rg {an:=[(0, .map 0 (yJ (aH .i64) ([]:(List (Int × Int)))) (yM (aH .i64) ([]:(List (Int × Int)))) [])],fr:=[(0,57),(2,58)]} []<| .cl 2 (yw p s_) fun r_=> .r<| .cl 0 (mr [(0,59),(1,58),(2,57)] (wP r_.1 r_.2.1 r_.2.2.1 r_.2.2.2.1 r_.2.2.2.2.1 r_.2.2.2.2.2.1 r_.2.2.2.2.2.2.1 r_.2.2.2.2.2.2.2.1 r_.2.2.2.2.2.2.2.2.1 r_.2.2.2.2.2.2.2.2.2.1 r_.2.2.2.2.2.2.2.2.2.2 (⟨([]:(List (Int × Int)))⟩:aY))) fun v0=> .rf 59 [5] [] none 0 []<| .r<| .im (.adR 7 60 122 2 (xJ aI.ev ([]:List aI)))<| .rg {an:=[(0, .map 0 (yJ (aH .i64) ([]:(List (Int × Int)))) (yM (aH .i64) ([]:(List (Int × Int)))) [])],fr:=[(0,61)]} []<| .r<| .lp (σ:=((List aI) × (List (Int × Int)) × Int)) (β:=((List aI) × (List (Int × Int)))) (([]:List aI),([]:(List (Int × Int))),0) [] [] ⟨[2,3,5,8,31],[55,57,58],fun(u1,u2,u3)=>[(7,vO 60 false u1.length),(32,vI u3)],fun(u1,u2,u3)=>(k56 u1 u2)⟩ ⟨[2,3,5,8],[55,57,58],fun(u9,u4)=>[(7,vO 60 false u9.length)],fun(u9,u4)=>(k56 u9 u4)⟩
  (fun(u1,u2,u3)=> .r<| .it (.r<| .a1 ((0:Int)<=u3/\u3<(s_.al.length:Int))<| .r<| .it (.r<| .e (.next (u1,u2,k11 u3)))
  (.cr 2 (mr [(0,57)] (gX v0 u3)) fun u0=> .r<| .rg {an:=[(2, .look (bA cZ u0 u2).isSome (Zx u2 u0))]} [.pf ⟨kR [some .i64] 1 1 u2.length (yJ (aH .i64) u2) (yM (aH .i64) u2) [.int .i64 u0] [.d (.int .i64 0)] (bA cZ u0 u2).isSome (Zx u2 u0),lH (fun _=>rfl) (fun _ _=>rfl) u2 u0 0 rfl rfl rfl⟩]<| .r<| .it (.rg {an:=[(4, .map (PD u1 u2 u0).length (yJ (aH .i64) (PD u1 u2 u0)) (yM (aH .i64) (PD u1 u2 u0)) [])]} [.pf ⟨qY [some .i64] 1 1 u2.length (yJ (aH .i64) u2) (yM (aH .i64) u2) [.int .i64 u0] [cI (u1.length:Int)] [] (PD u1 u2 u0).length (yJ (aH .i64) (PD u1 u2 u0)) (yM (aH .i64) (PD u1 u2 u0)),FH (fun _=>rfl) (fun _ _=>rfl) u2 u0 (u1.length:Int) rfl rfl⟩]<| .a2 ((u1.length+[(⟨([]:List Int),([]:List Int)⟩:aI)].length)*48<=140737488355328) (u1.length+[(⟨([]:List Int),([]:List Int)⟩:aI)].length<=4611686018427387904)<| .rg {an:=[(2, .arr [(⟨([]:List Int),([]:List Int)⟩:aI)].length (lS 2 [nS,nS])),(3, .rows (Vo u1).length (k61 u1))],fr:=[(2,86),(3,87)]} [.pf ⟨[(⟨([]:List Int),([]:List Int)⟩:aI)].length=1,rfl⟩, .pf ⟨aF 1 2 (lS 2 [nS,nS]) (lS 2 [nS,nS]),mI _ _ _⟩, .e (u1.length),0,1, .pf ⟨(Vo u1).length=u1.length+[(⟨([]:List Int),([]:List Int)⟩:aI)].length,cd⟩, .pf ⟨Fb u1.length [(⟨([]:List Int),([]:List Int)⟩:aI)].length 2 (xJ aI.ev u1) (lS 2 [nS,nS]) (k61 u1),Xu _ _ _ _ _ (by intro i hi j hj;match i,j,hi,hj with|0,0,_,_=>exact⟨rfl,_,_,_,rfl⟩|0,1,_,_=>exact⟨rfl,_,_,_,rfl⟩)⟩]<| .rg {an:=[(2, .look (bA cZ u0 (PD u1 u2 u0)).isSome [cI (Wn u1 u2 u0)])]} [.pf ⟨kR [some .i64] 1 1 (PD u1 u2 u0).length (yJ (aH .i64) (PD u1 u2 u0)) (yM (aH .i64) (PD u1 u2 u0)) [.int .i64 u0] [.d (.int .i64 0)] (bA cZ u0 (PD u1 u2 u0)).isSome [cI (Wn u1 u2 u0)],lH (fun _=>rfl) (fun _ _=>rfl) (PD u1 u2 u0) u0 0 rfl rfl rfl⟩]<| .a3 ((0:Int)<=(Wn u1 u2 u0)/\(Wn u1 u2 u0)<((Vo u1).length:Int)) ((k63 u1 u2 u0 u3)*8<=140737488355328) ((XG u1 u2 u0).length+[u3].length<=4611686018427387904)<| .rg {an:=[(6, .take 88),(8, .arr [u3].length (aj (aH .i64) [u3])),(9, .arr (ZA u1 u2 u0 u3).length (k68 u1 u2 u0 u3)),(12, .rows 0 (k69 u1 u2 u0 u3))],fr:=[(8,89),(9,90)]} [0, .t 0 (Wn u1 u2 u0) ((Vo u1).length), .pf ⟨[u3].length=1,rfl⟩, .pf ⟨aF 1 1 (lS 1 [.int .i64 u3]) (aj (aH .i64) [u3]),(by intro i hi j hj;match i,j,hi,hj with|0,0,_,_=>rfl)⟩, .e ((XG u1 u2 u0).length),1,2, .pf ⟨(ZA u1 u2 u0 u3).length=(XG u1 u2 u0).length+[u3].length,cd⟩, .pf ⟨aF (k63 u1 u2 u0 u3) 1 (nY (aj (aH .i64) (XG u1 u2 u0)) (XG u1 u2 u0).length (aj (aH .i64) [u3])) (k68 u1 u2 u0 u3),bD _ _ _ _⟩,0, .t 0 (Wn u1 u2 u0) ((Vo u1).length), .e ((ZA u1 u2 u0 u3).length), .pf ⟨Uh (Vo u1).length 2 (XM (k61 u1) (k66 u1 u2 u0) 0 (.row 3 1 (ZA u1 u2 u0 u3).length (k68 u1 u2 u0 u3))) (k69 u1 u2 u0 u3),Fu _ _ _ _ _ _ _ _ rfl (fun j hj=>(match j,hj with|0,_=>rfl|1,_=>rfl))⟩, .pf ⟨∀i0 j0 c0,((some ((Wn u1 u2 u0).toNat,0,CV.own 88 false (XG u1 u2 u0).length)):Option (Nat × Nat × CV))=some (i0,j0,c0)->i0=(Wn u1 u2 u0).toNat/\j0=0,(fun i0 j0 c0 e=>by cases e;exact⟨rfl,rfl⟩)⟩]<| .im (.ll 87 (Vo u1) (k70 u1 u2 u0 u3))<| .r<| .en (.next (k70 u1 u2 u0 u3,PD u1 u2 u0,k11 u3)) [] [(87,60)])
  (.rg {an:=[(2, .look (bA cZ u0 u2).isSome (Zx u2 u0))]} [.pf ⟨kR [some .i64] 1 1 u2.length (yJ (aH .i64) u2) (yM (aH .i64) u2) [.int .i64 u0] [.d (.int .i64 0)] (bA cZ u0 u2).isSome (Zx u2 u0),lH (fun _=>rfl) (fun _ _=>rfl) u2 u0 0 rfl rfl rfl⟩]<| .a3 ((0:Int)<=(HZ u2 u0)/\(HZ u2 u0)<(u1.length:Int)) (((Vs u1 u2 u0).length+[u3].length)*8<=140737488355328) ((Vs u1 u2 u0).length+[u3].length<=4611686018427387904)<| .rg {an:=[(6, .take 91),(8, .arr [u3].length (aj (aH .i64) [u3])),(9, .arr (ZF u1 u2 u0 u3).length (k73 u1 u2 u0 u3)),(12, .rows 0 (k74 u1 u2 u0 u3))],fr:=[(8,92),(9,93)]} [0, .t 0 (HZ u2 u0) u1.length, .pf ⟨[u3].length=1,rfl⟩, .pf ⟨aF 1 1 (lS 1 [.int .i64 u3]) (aj (aH .i64) [u3]),(by intro i hi j hj;match i,j,hi,hj with|0,0,_,_=>rfl)⟩, .e ((Vs u1 u2 u0).length),1,2, .pf ⟨(ZF u1 u2 u0 u3).length=(Vs u1 u2 u0).length+[u3].length,cd⟩, .pf ⟨aF ((Vs u1 u2 u0).length+[u3].length) 1 (nY (aj (aH .i64) (Vs u1 u2 u0)) (Vs u1 u2 u0).length (aj (aH .i64) [u3])) (k73 u1 u2 u0 u3),bD _ _ _ _⟩,0, .t 0 (HZ u2 u0) u1.length, .e ((ZF u1 u2 u0 u3).length), .pf ⟨Uh u1.length 2 (XM (xJ aI.ev u1) ((HZ u2 u0).toNat) 0 (.row 3 1 (ZF u1 u2 u0 u3).length (k73 u1 u2 u0 u3))) (k74 u1 u2 u0 u3),Fu _ _ _ _ _ _ _ _ rfl (fun j hj=>(match j,hj with|0,_=>rfl|1,_=>rfl))⟩, .pf ⟨∀i0 j0 c0,((some ((HZ u2 u0).toNat,0,CV.own 91 false (Vs u1 u2 u0).length)):Option (Nat × Nat × CV))=some (i0,j0,c0)->i0=(HZ u2 u0).toNat/\j0=0,(fun i0 j0 c0 e=>by cases e;exact⟨rfl,rfl⟩)⟩]<| .im (.ll 60 u1 (k75 u1 u2 u0 u3))<| .r<| .e (.next (k75 u1 u2 u0 u3,u2,k11 u3)))))
  (.e (.done (.brk (u1,u2)))))
  (fun(u9,u4)=> .r<| .lp (σ:=((List aI) × Int)) (β:=(List aI)) (u9,0) [] [] ⟨[3,5,8,76,77],[57,58,61],fun(u5,u7)=>[(7,vO 60 false u5.length),(78,vI u7)],fun(u5,u7)=>[(60,some (.rows 122 2 u5.length (xJ aI.ev u5) none))]⟩ ⟨[],[],fun u8=>[(7,vO 60 false u8.length)],fun u8=>[(60,some (.rows 122 2 u8.length (xJ aI.ev u8) none))]⟩
  (fun(u5,u7)=> .r<| .it (.a1 (k76 u7 p)<| .rg {fr:=[(3,106)],fz:=[106]} []<| .a3 ((0:Int)<=u7/\u7<(s_.on_.length:Int)) (k77 u7 s_) (k78 u7 p s_)<| .rg {} [0,1,2]<| .it (.cr 4 (mr [(0,57)] (gX v0 ((at' p.aa u7.toNat).bus))) fun u6=> .rg {an:=[(5, .look (bA cZ u6 u4).isSome (Zx u4 u6))]} [0, .pf ⟨kR [some .i64] 1 1 u4.length (yJ (aH .i64) u4) (yM (aH .i64) u4) [.int .i64 u6] [.d (.int .i64 0)] (bA cZ u6 u4).isSome (Zx u4 u6),lH (fun _=>rfl) (fun _ _=>rfl) u4 u6 0 rfl rfl rfl⟩]<| .a3 ((0:Int)<=(HZ u4 u6)/\(HZ u4 u6)<(u5.length:Int)) (((VY u5 u6 u4).length+[u7].length)*8<=140737488355328) ((VY u5 u6 u4).length+[u7].length<=4611686018427387904)<| .rg {an:=[(6, .take 107),(8, .arr [u7].length (aj (aH .i64) [u7])),(9, .arr (ZC u7 u5 u6 u4).length (k81 u7 u5 u6 u4)),(12, .rows 0 (k82 u7 u5 u6 u4))],fr:=[(8,108),(9,109)]} [0, .t 0 (HZ u4 u6) u5.length, .pf ⟨[u7].length=1,rfl⟩, .pf ⟨aF 1 1 (lS 1 [.int .i64 u7]) (aj (aH .i64) [u7]),(by intro i hi j hj;match i,j,hi,hj with|0,0,_,_=>rfl)⟩, .e ((VY u5 u6 u4).length),1,2, .pf ⟨(ZC u7 u5 u6 u4).length=(VY u5 u6 u4).length+[u7].length,cd⟩, .pf ⟨aF ((VY u5 u6 u4).length+[u7].length) 1 (nY (aj (aH .i64) (VY u5 u6 u4)) (VY u5 u6 u4).length (aj (aH .i64) [u7])) (k81 u7 u5 u6 u4),bD _ _ _ _⟩,0, .t 0 (HZ u4 u6) u5.length, .e ((ZC u7 u5 u6 u4).length), .pf ⟨Uh u5.length 2 (XM (xJ aI.ev u5) ((HZ u4 u6).toNat) 1 (.row 3 1 (ZC u7 u5 u6 u4).length (k81 u7 u5 u6 u4))) (k82 u7 u5 u6 u4),Fu _ _ _ _ _ _ _ _ rfl (fun j hj=>(match j,hj with|0,_=>rfl|1,_=>rfl))⟩, .pf ⟨∀i0 j0 c0,((some ((HZ u4 u6).toNat,1,CV.own 107 false (VY u5 u6 u4).length)):Option (Nat × Nat × CV))=some (i0,j0,c0)->i0=(HZ u4 u6).toNat/\j0=1,(fun i0 j0 c0 e=>by cases e;exact⟨rfl,rfl⟩)⟩]<| .im (.ll 60 u5 (k83 u7 u5 u6 u4))<| .r<| .e (.next (k83 u7 u5 u6 u4,k11 u7)))
  (.r<| .e (.next (u5,k11 u7))))
  (.e (.done (.brk u5))))
  (fun u8=> .r<| .fz [60]<| .im (.us 4 (vD (.sl none 2 u8.length (fun i j=>evD (xJ aI.ev u8 i j)))) (vD (aZ none 2 aI.cell u8)) (EU.v (pJ.one (fq.d (eu.sl (.inr rfl) (fun i _ j hj=>match j,hj with|0,_=> .refl _|1,_=> .refl _))))))<| .e u8)))
section
variable (p:ah) (u1:List aI) (u0:Int) (u3:Int) (u2:List Bool) (u6:List Bool)
abbrev k84:=((1:Int)*p.ap<=281474976710656)
abbrev k85:=((p.ap:Int)<=9223372036854775807)
abbrev LV:=(List.replicate p.ap.toNat (false:Bool))
abbrev Xb:=(aj af (LV p))
abbrev Zq:=(at' ((at' u1 u0.toNat).ap) u3.toNat)
abbrev k88:=((0:Int)<=(Zq u1 u0 u3)/\(Zq u1 u0 u3)<(u2.length:Int))
abbrev k91:=(u2.set ((Zq u1 u0 u3).toNat) (decide (0<(((at' u1 u0.toNat).aa).length:Int))))
abbrev k90:=(aj af (k91 u1 u0 u3 u2))
abbrev k92:=(nR (aj af u2) ((Zq u1 u0 u3).toNat) 0 [.bool (decide (0<(((at' u1 u0.toNat).aa).length:Int)))])
abbrev k93:=(k91 u1 u0 u3 u2,k11 u3)
abbrev ZG:=(u6,k11 u0)
end
theorem rR (p:ah) (s_:State):dN Tryz.prog 14 (k22 s_ p) [] (fun r=>(.fF [.one (.own 0 false r.1.length),sI r.2])) (fun r=>[(0,some (aW 4 1 af r.1))]) (eZ p s_):=
  eF tT mX Tryz.func14 (
  .rg {fr:=[(0,7),(1,8)],fz:=[7,8]} []<| .cl 2 (eT p s_) fun r_=> .r<| .r<| .it (.r<| .im (.ad 4 9 4 1 (aj af ([]:List Bool)))<| .en (([]:List Bool),r_) [] [(9,0)])
  (.a3 ((0:Int)<=p.ap) (k84 p) (k85 p)<| .rg {an:=[(2, .arr (LV p).length (Xb p))],fr:=[(2,10)]} [0, .e ((p.ap:Int)),1,2, .pf ⟨(LV p).length=p.ap.toNat,dC⟩, .pf ⟨aF p.ap.toNat 1 (fun _ j=>[.bool false].getD j .nilp) (Xb p),j6 _ _ _ _ _ (fun j hj=>(match j,hj with|0,_=>rfl))⟩]<| .cl 2 (oP p s_) fun u1=> .r<| .lp (σ:=((List Bool) × Int)) (β:=(List Bool)) (LV p,0) [] [] ⟨[23,24],[],fun(u4,u0)=>[(7,vO 10 true u4.length),(25,vI u0)],fun(u4,u0)=>[(10,some (aW 4 1 af u4))]⟩ ⟨[],[],fun u5=>[(7,vO 10 true u5.length)],fun u5=>[(10,some (aW 4 1 af u5))]⟩
  (fun(u4,u0)=> .r<| .it (.a1 ((0:Int)<=u0/\u0<(u1.length:Int))<| .rg {fr:=[(2,14)]} []<| .rg {fz:=[14]} []<| .lp (σ:=((List Bool) × Int)) (β:=(List Bool)) (u4,0) [] [] ⟨[9,23,24,25,30,31],[],fun(u2,u3)=>[(7,vO 10 true u2.length),(32,vI u3)],fun(u2,u3)=>[(10,some (aW 4 1 af u2))]⟩ ⟨[23,24,25],[],fun u6=>[(7,vO 10 true u6.length)],fun u6=>[(10,some (aW 4 1 af u6))]⟩
  (fun(u2,u3)=> .r<| .it (.a1 ((0:Int)<=u3/\u3<(((at' u1 u0.toNat).ap).length:Int))<| .r<| .a1 (k88 u1 u0 u3 u2)<| .rg {an:=[(7, .arr 0 (k90 u1 u0 u3 u2))]} [0, .t 0 (Zq u1 u0 u3) u2.length, .pf ⟨aF u2.length 1 (k92 u1 u0 u3 u2) (k90 u1 u0 u3 u2),dB _ _ _ _ _ _ _ _ rfl (fun j hj=>(match j,hj with|0,_=>rfl))⟩]<| .im (.ll 10 u2 (k91 u1 u0 u3 u2))<| .r<| .e (.next (k93 u1 u0 u3 u2)))
  (.e (.done (.brk u2))))
  (fun u6=> .r<| .e (.next (ZG u0 u6))))
  (.e (.done (.brk u4))))
  (fun u5=> .r<| .en (u5,0) [] [(10,0)])))
theorem jo (x y:aB):Go.Proofs.ltOf dI x y=true↔x.e0<y.e0\/ ¬ y.e0<x.e0/\x.e1<y.e1:=by
 unfold Go.Proofs.ltOf dI;rw [dg]
 by_cases h0:x.e0<y.e0<;>by_cases g0:y.e0<x.e0<;>by_cases h1:x.e1<y.e1<;>by_cases g1:y.e1<x.e1<;>simp [h0,g0,h1,g1]
theorem yE:Go.Sort.SWO (Go.Proofs.ltOf dI) where
 irrefl x:=by rw [<-Bool.not_eq_true,jo];omega
 trans x y z h1 h2:=by rw [jo]at*;omega
 ntrans x y z h1 h2:=by rw [<-Bool.not_eq_true,jo]at*;omega
theorem yI (x y:aB) (h1:(Go.Proofs.ltOf dI) x y=false) (h2:(Go.Proofs.ltOf dI) y x=false):x=y:=by
 rw [<-Bool.not_eq_true,jo]at h1 h2
 obtain⟨a,b⟩:=x
 obtain⟨c,d⟩:=y
 have e1:a=c:=by simp only at h1 h2;omega
 have e2:b=d:=by simp only at h1 h2;omega
 rw [e1,e2]
theorem zC (s:List aB) {r:List aB} (h:vC s=some r):Fn Tryz.prog 52 [.one (.own 0 false s.length),sD (.fn 53 0 (yD []))] [(0,some (.arr 44 2 s.length (aj aB.cell s)))] (.fF []) [(0,some (.arr 44 2 r.length (aj aB.cell r)))]:=
 Yg Tx 2 WT Vk (fun x:aB=>[.int .i64 x.e0, .int .i64 x.e1]) (fun _=>rfl) (fun x v hv=>by simp at hv;rcases hv with rfl|rfl<;>rfl) dI yE yI
  (NZ (fun x:aB=>[.int .i64 x.e0, .int .i64 x.e1]) (fun x=>x.e0) (fun x=>x.e1) (fun _=>rfl)) (enters_of Tryz.func53 (by kernel_rfl) rfl)
  (fun F w x j hj v=>match j,hj with|0,_=>Iff.rfl|1,_=>Iff.rfl) 52 rfl ⟨_,Tryz.func52,rfl,rfl⟩ s (by cases s with|nil=>(cases h;simp)|cons x xs=>exact h)
section
variable (u6:List aB) (u2:List aI) (u0:Int) (u1:Int) (u3:Int) (u4:List aB)
abbrev ZE:List (Nat × Option Ob):=[(139,some (aW 44 2 aB.cell u6))]
abbrev k96:=(((at' u2 u0.toNat).aa).drop ((k11 u1).toNat))
abbrev XW:=(at' ((at' u2 u0.toNat).aa) u1.toNat)
abbrev k98:=(at' (k96 u2 u0 u1) u3.toNat)
abbrev Oz:=(⟨XW u2 u0 u1,k98 u2 u0 u1 u3⟩:aB)
abbrev k99:=(u4.length+[Oz u2 u0 u1 u3].length)
abbrev Yb:=(aj aB.cell [Oz u2 u0 u1 u3])
abbrev W9:=(u4++[Oz u2 u0 u1 u3])
abbrev aaL:=(aj aB.cell (W9 u2 u0 u1 u3 u4))
end
theorem kT (p:ah) (s_:State):dN Tryz.prog 15 (k22 s_ p) [] (fun r=>(.fF [.one (.own 0 false r.1.length),sI r.2])) (fun r=>[(0,some (aW 44 2 aB.cell r.1))]) (lm p s_):=
  eF tT mX Tryz.func15 (
  .rg {fr:=[(0,134),(1,135)],fz:=[134,135]} []<| .cl 2 (eT p s_) fun r_=> .r<| .r<| .it (.r<| .im (.ad 4 136 44 2 (aj aB.cell ([]:List aB)))<| .en (([]:List aB),r_) [] [(136,0)])
  (.r<| .cl 2 (oP p s_) fun u2=> .r<| .im (.ad 7 269 44 2 (aj aB.cell ([]:List aB)))<| .lp (σ:=((List aB) × Int)) (β:=(List aB)) (([]:List aB),0) [] [(269,139)] ⟨[2,22,23],[],fun(u6,u0)=>[(7,vO 139 false u6.length),(24,vI u0)],fun(u6,u0)=>(ZE u6)⟩ ⟨[],[],fun u5=>[(7,vO 139 false u5.length)],fun u5=>(ZE u5)⟩
  (fun(u6,u0)=> .r<| .it (.a1 ((0:Int)<=u0/\u0<(u2.length:Int))<| .rg {fr:=[(2,236)],fz:=[236]} []<| .r<| .lp (σ:=((List aB) × Int)) (β:=(List aB)) (u6,0) [] [] ⟨[2,9,22,23,24,29,30],[],fun(u7,u1)=>[(7,vO 139 false u7.length),(31,vI u1)],fun(u7,u1)=>(ZE u7)⟩ ⟨[2,22,23,24],[],fun u8=>[(7,vO 139 false u8.length)],fun u8=>(ZE u8)⟩
  (fun(u7,u1)=> .r<| .it (.a1 ((0:Int)<=u1/\u1<(((at' u2 u0.toNat).aa).length:Int))<| .r<| .a1 ((0:Int)<=(k11 u1)/\(k11 u1)<=(((at' u2 u0.toNat).aa).length:Int))<| .r<| .im (.us 40 (vD (.sl none 1 (((at' u2 u0.toNat).aa).length - ((k11 u1).toNat)) (fun iq jq=>aj (aH .i64) ((at' u2 u0.toNat).aa) (iq+((k11 u1).toNat)) jq))) (vD (aZ none 1 (aH .i64) (k96 u2 u0 u1))) (EU.v (pJ.one (fq.d (eu.slN (by first|rw [cd,d_]|simp only [cL,d_,CO]) (.inr rfl) (YJ _ _ _ _))))))<| .lp (σ:=((List aB) × Int)) (β:=(List aB)) (u7,0) [] [] ⟨[2,9,11,22,23,24,29,30,31,40,41],[],fun(u4,u3)=>[(7,vO 139 false u4.length),(42,vI u3)],fun(u4,u3)=>(ZE u4)⟩ ⟨[2,9,22,23,24,29,30,31],[],fun u9=>[(7,vO 139 false u9.length)],fun u9=>(ZE u9)⟩
  (fun(u4,u3)=> .r<| .it (.a1 ((0:Int)<=u3/\u3<((k96 u2 u0 u1).length:Int))<| .r<| .a3 ((0:Int)<=(XW u2 u0 u1)/\(XW u2 u0 u1)<(p.aa.length:Int)) ((gB [(decide (((at' p.aa ((XW u2 u0 u1).toNat)).bp)=0),false)]=true->(0:Int)<=(XW u2 u0 u1)/\(XW u2 u0 u1)<(p.aa.length:Int))) ((gB [(decide (((at' p.aa ((XW u2 u0 u1).toNat)).bp)=0),false)]=true->(0:Int)<=(k98 u2 u0 u1 u3)/\(k98 u2 u0 u1 u3)<(p.aa.length:Int)))<| .rg {} [0,1,2]<| .it (.a2 ((k99 u2 u0 u1 u3 u4)*16<=140737488355328) (u4.length+[Oz u2 u0 u1 u3].length<=4611686018427387904)<| .rg {an:=[(4, .arr [Oz u2 u0 u1 u3].length (Yb u2 u0 u1 u3)),(5, .arr (W9 u2 u0 u1 u3 u4).length (aaL u2 u0 u1 u3 u4))],fr:=[(4,267),(5,268)]} [.pf ⟨[Oz u2 u0 u1 u3].length=1,rfl⟩, .pf ⟨aF 1 2 (lS 2 [.int .i64 (XW u2 u0 u1),.int .i64 (k98 u2 u0 u1 u3)]) (Yb u2 u0 u1 u3),(by intro i hi j hj;match i,j,hi,hj with|0,0,_,_=>rfl|0,1,_,_=>rfl)⟩, .e (u4.length),0,1, .pf ⟨(W9 u2 u0 u1 u3 u4).length=u4.length+[Oz u2 u0 u1 u3].length,cd⟩, .pf ⟨aF (k99 u2 u0 u1 u3 u4) 2 (nY (aj aB.cell u4) u4.length (Yb u2 u0 u1 u3)) (aaL u2 u0 u1 u3 u4),bD _ _ _ _⟩]<| .r<| .en (.next (W9 u2 u0 u1 u3 u4,k11 u3)) [] [(268,139)])
  (.r<| .e (.next (u4,k11 u3))))
  (.e (.done (.brk u4))))
  (fun u9=> .r<| .e (.next (u9,k11 u1))))
  (.e (.done (.brk u7))))
  (fun u8=> .r<| .e (.next (u8,k11 u0))))
  (.e (.done (.brk u6))))
  (fun u5=> .cl 1 (mr [(0,139)] ⟨fun h=>zC u5 h⟩) fun v0=> .r<| .a1 (u5.length=v0.length)<| .so 7 139 false u5.length v0.length 0<| .so 77 139 false u5.length v0.length 0<| .r<| .en (v0,0) [] [(139,0)])))
theorem Dn (s_:List aB) (v_:aB):dN Tryz.prog 176 [sD (aZ none 2 aB.cell s_),.agg [cI v_.e0,cI v_.e1]] [] (fun r=>(vI r)) (fun _=>[]) (zS s_ v_):=
  eF tT mX Tryz.func176 (
  .rg {fr:=[(0,1)],fz:=[1]} []<| .r<| .lp (σ:=Int) (β:=Unit) (0) [] [] ⟨[0,3,7],[],fun t8=>[(8,vI t8)],fun t8=>[]⟩ ⟨[],[],fun _=>[],fun _=>[]⟩
  (fun t8=> .r<| .it (.r<| .a1 ((0:Int)<=t8/\t8<(s_.length:Int))<| .r<| .it (.r<| .e (.done (.ret t8)))
  (.r<| .e (.next (k11 t8))))
  (.e (.done (.brk ()))))
  (fun _=> .r<| .e (-1)))
theorem yP (s_:List aB) (v_:aB):dN Tryz.prog 151 [sD (aZ none 2 aB.cell s_),.agg [cI v_.e0,cI v_.e1]] [] (fun r=>(vB r)) (fun _=>[]) (uW s_ v_):=
  eF tT mX Tryz.func151 (
  .rg {fr:=[(0,1)],fz:=[1]} []<| .cl 2 (Dn s_ v_) fun r_=> .r<| .e (decide (0<=r_)))
theorem BL (c:aB) (x1:List aB):dN Tryz.prog 150 [.agg [cI c.e0,cI c.e1],sD (Jm [aZ none 2 aB.cell x1] 0)] [] (fun r=>(vB r)) (fun _=>[]) (yh c x1):=
  eF tT mX Tryz.func150 (
  .rg {fr:=[(0,1)],fz:=[1]} []<| .cl 2 (yP x1 c) fun r_=> .r<| .e (!r_))
section
variable (s_:List aB) (f_:List aB)
abbrev aaO:List SV:=[sD (aZ none 2 aB.cell s_),sD (.fn 150 1 (yD [Jm [aZ none 2 aB.cell f_] 0]))]
end
theorem wu (s_:List aB) (f_:List aB):dN Tryz.prog 175 (aaO s_ f_) [] (fun r=>(vI r)) (fun _=>[]) (qB s_ f_):=
  eF tT mX Tryz.func175 (
  .r<| .r<| .lp (σ:=Int) (β:=Unit) (0) [] [] ⟨[0,1,7],[],fun t8=>[(8,vI t8)],fun t8=>[]⟩ ⟨[],[],fun _=>[],fun _=>[]⟩
  (fun t8=> .r<| .it (.r<| .cl 5 (BL (at' s_ t8.toNat) f_) fun r_=> .a1 ((0:Int)<=t8/\t8<(s_.length:Int))<| .rg {} [0,1]<| .it (.r<| .e (.done (.ret t8)))
  (.r<| .e (.next (k11 t8))))
  (.e (.done (.brk ()))))
  (fun _=> .r<| .e (-1)))
theorem mo (s_:List aB) (f_:List aB):dN Tryz.prog 149 (aaO s_ f_) [] (fun r=>(vB r)) (fun _=>[]) (jL s_ f_):=
  eF tT mX Tryz.func149 (
  .r<| .cl 2 (wu s_ f_) fun r_=> .r<| .e (decide (0<=r_)))
section
variable (p:ah) (s_:State) (x:Transfer) (r_:(List Bool) × Int) (u0:List Bool) (u1:Int) (u3:(List Bool) × Int)
abbrev YP:List SV:=[.agg (k1 p),.agg (k39 s_)]
abbrev ZI:=(bif (bif (at' s_.al x.bi.toNat)then true else(at' r_.1 x.bi.toNat))then true else(at' s_.aq x.close.toNat))
abbrev aa0:=(ZI s_ x r_,false)
abbrev aaK:=((bif (ZI s_ x r_)then true else(at' s_.am x.close.toNat)),false)
abbrev zn:=(u0.set x.close.toNat true)
abbrev GN:=((zn x u0).set x.open_.toNat false)
abbrev abL:List SV:=[.agg (k1 p),.agg [.d (aZ none 1 af (GN x u0)),.d (aZ none 1 af s_.aw),.d (aZ none 1 af s_.am),.d (aZ none 1 af s_.on_),.d (k24 s_),.d (aZ none 1 af s_.ar),.d (aZ none 1 af s_.al)]]
abbrev Zb:=(⟨GN x u0,s_.aw,s_.am,s_.on_,s_.ag,s_.ar,s_.al⟩:State)
abbrev aax:List SV:=[.agg (k1 p),.agg [.own 29 false ((GN x u0).length),.own 1 false s_.aw.length,.own 2 false s_.am.length,.own 3 false s_.on_.length,.own 4 false s_.ag.length,.own 5 false s_.ar.length,.own 6 false s_.al.length]]
abbrev Yv:Nat × Option Ob:=(29,some (aW 4 1 af (GN x u0)))
abbrev Z8:List (Nat × Option Ob):=[Yv x u0,MW s_,Lx s_,LK s_,LU s_,Lf s_,MF s_]
abbrev TD:=((bif (at' r_.1 u1.toNat)then(!(at' u3.1 u1.toNat))else false),false)
abbrev aa7:=((gB [TD r_ u1 u3]=true->(0:Int)<=u1/\u1<(u3.1.length:Int)))
abbrev aa8:=((gB [(at' u3.1 u1.toNat,true),TD r_ u1 u3]=true->(0:Int)<=u1/\u1<(s_.ar.length:Int)))
abbrev aaS:=((gB [((bif (at' u3.1 u1.toNat)then(at' s_.ar u1.toNat)else false),true),TD r_ u1 u3]=true->(0:Int)<=u1/\u1<(r_.1.length:Int)))
abbrev abh:List SV:=[.agg (k1 p),.agg [.d (aZ none 1 af (zn x u0)),.d (aZ none 1 af s_.aw),.d (aZ none 1 af s_.am),.d (aZ none 1 af s_.on_),.d (k24 s_),.d (aZ none 1 af s_.ar),.d (aZ none 1 af s_.al)]]
abbrev YE:=(⟨zn x u0,s_.aw,s_.am,s_.on_,s_.ag,s_.ar,s_.al⟩:State)
abbrev aay:List SV:=[.agg (k1 p),.agg [.own 29 false ((zn x u0).length),.own 1 false s_.aw.length,.own 2 false s_.am.length,.own 3 false s_.on_.length,.own 4 false s_.ag.length,.own 5 false s_.ar.length,.own 6 false s_.al.length]]
abbrev Zi:Nat × Option Ob:=(29,some (aW 4 1 af (zn x u0)))
abbrev ZN:List (Nat × Option Ob):=[Zi x u0,MW s_,Lx s_,LK s_,LU s_,Lf s_,MF s_]
end
theorem Ef (p:ah) (s_:State) (x:Transfer):dN Tryz.prog 103 [.agg (k1 p),.agg (k39 s_),.agg [cI x.bi,cI x.open_,cI x.close]] (k40 s_) (fun r=>(.fF [.agg [.own 7 false r.1.aq.length,.own 1 false s_.aw.length,.own 2 false s_.am.length,.own 3 false s_.on_.length,.own 4 false s_.ag.length,.own 5 false s_.ar.length,.own 6 false s_.al.length],sB r.2])) (fun r=>[Xx s_,MW s_,Lx s_,LK s_,LU s_,Lf s_,MF s_,(7,bif r.2 then some (aW 4 1 af r.1.aq)else none),(8,none)]) (AJ p s_ x):=
  eF tT mX Tryz.func103 (
  .rg {fr:=[(0,22),(1,23),(2,24),(3,25)],fz:=[22]} []<| .cl 2 ⟨fun{r_} hr_=>((Fn.uj (args:=(k22 s_ p)) (frz:=[0,1,2,3,4,5,6]) (p:=[s_.aq.length=s_.aq.length,s_.aw.length=s_.aw.length,s_.am.length=s_.am.length,s_.on_.length=s_.on_.length,s_.ag.length=s_.ag.length,s_.ar.length=s_.ar.length,s_.al.length=s_.al.length]) (rK [(0,26)] (rR p s_ hr_)) (by kernel_rfl) ⟨rfl,rfl,rfl,rfl,rfl,rfl,rfl,trivial⟩ (by kernel_rfl) ⟨(fun _ _=>rfl),trivial⟩ (by kernel_rfl)):Fn Tryz.prog 14 (YP p s_) (k40 s_) (.fF [.one (.own 26 false r_.1.length),sI r_.2]) [Xx s_,MW s_,Lx s_,LK s_,LU s_,Lf s_,MF s_,(26,some (aW 4 1 af r_.1))])⟩ fun r_=> .rg {fz:=[26]} []<| .a5 ((0:Int)<=x.bi/\x.bi<(s_.al.length:Int)) ((gB [(at' s_.al x.bi.toNat,false)]=true->(0:Int)<=x.bi/\x.bi<(r_.1.length:Int))) ((gB [((bif (at' s_.al x.bi.toNat)then true else(at' r_.1 x.bi.toNat)),false)]=true->(0:Int)<=x.close/\x.close<(s_.aq.length:Int))) ((gB [aa0 s_ x r_]=true->(0:Int)<=x.close/\x.close<(s_.am.length:Int))) ((gB [aaK s_ x r_]=true->(0:Int)<=x.close/\x.close<(s_.aw.length:Int)))<| .rg {} [0, .t 0 x.bi s_.al.length,1,2, .tg 2 [((bif (at' s_.al x.bi.toNat)then true else(at' r_.1 x.bi.toNat)),false)] x.close s_.aq.length,3, .tg 3 [aa0 s_ x r_] x.close s_.am.length,4, .tg 4 [aaK s_ x r_] x.close s_.aw.length]<| .it (.r<| .im (.ac 25 0 0 27)<| .en (s_,false) [] [(27,7),(25,8)])
  (.rg {fr:=[(1,28)]} []<| .cl 2 ⟨fun{u0} hr_1=>((Fn.uj (args:=[sD (aZ none 1 af s_.aq)]) (frz:=[0]) (p:=[s_.aq.length=s_.aq.length]) (Fn.yK [(0,29)] (aP s_.aq hr_1) (by kernel_rfl) (by kernel_rfl) (by kernel_rfl) (by kernel_rfl)) (by kernel_rfl) ⟨rfl,trivial⟩ (by kernel_rfl) ⟨(fun _ _=>rfl),trivial⟩ (by kernel_rfl)):Fn Tryz.prog 101 [.one (.own 0 false s_.aq.length)] [Xx s_] (vO 29 false u0.length) [Xx s_,(29,some (aW 4 1 af u0))])⟩ fun u0=> .r<| .a1 ((0:Int)<=x.close/\x.close<(u0.length:Int))<| .rg {an:=[(5, .arr 0 (aj af (zn x u0)))]} [0, .t 0 x.close u0.length, .pf ⟨aF u0.length 1 (nR (aj af u0) x.close.toNat 0 [.bool true]) (aj af (zn x u0)),dB _ _ _ _ _ _ _ _ rfl (fun j hj=>(match j,hj with|0,_=>rfl))⟩]<| .im (.ll 29 u0 (zn x u0))<| .r<| .it (.a2 ((0:Int)<=x.open_/\x.open_<(s_.am.length:Int)) ((gB [(at' s_.am x.open_.toNat,false)]=true->(0:Int)<=x.open_/\x.open_<(s_.aw.length:Int)))<| .rg {} [0, .t 0 x.open_ s_.am.length,1, .tg 1 [(at' s_.am x.open_.toNat,false)] x.open_ s_.aw.length]<| .it (.r<| .im (.ac 25 0 0 30)<| .en (s_,false) [] [(30,7),(25,8)])
  (.a1 ((0:Int)<=x.open_/\x.open_<((zn x u0).length:Int))<| .rg {an:=[(5, .arr 0 (aj af (GN x u0)))],fz:=[24]} [0, .t 0 x.open_ ((zn x u0).length), .pf ⟨aF (zn x u0).length 1 (nR (aj af (zn x u0)) x.open_.toNat 0 [.bool false]) (aj af (GN x u0)),dB _ _ _ _ _ _ _ _ rfl (fun j hj=>(match j,hj with|0,_=>rfl))⟩]<| .im (.ll 29 (zn x u0) (GN x u0))<| .cl 2 ⟨fun{u3} hr_2=>((Fn.uj (args:=(abL p s_ x u0)) (frz:=[29,1,2,3,4,5,6]) (p:=[(GN x u0).length=(GN x u0).length,s_.aw.length=s_.aw.length,s_.am.length=s_.am.length,s_.on_.length=s_.on_.length,s_.ag.length=s_.ag.length,s_.ar.length=s_.ar.length,s_.al.length=s_.al.length]) (Fn.yK [(0,31)] (rR p (Zb s_ x u0) hr_2) (by kernel_rfl) (by kernel_rfl) (by kernel_rfl) (by kernel_rfl)) (by kernel_rfl) ⟨rfl,rfl,rfl,rfl,rfl,rfl,rfl,trivial⟩ (by kernel_rfl) ⟨(fun _ _=>rfl),trivial⟩ (by kernel_rfl)):Fn Tryz.prog 14 (aax p s_ x u0) (Z8 s_ x u0) (.fF [.one (.own 31 false u3.1.length),sI u3.2]) [Yv x u0,MW s_,Lx s_,LK s_,LU s_,Lf s_,MF s_,(31,some (aW 4 1 af u3.1))])⟩ fun u3=> .rg {fz:=[31]} []<| .r<| .lp (σ:=Int) (β:=Unit) (0) [] [] ⟨[3,4,5,6,8,10,11,102],[0,1,2,3,4,5,6,23,25,28,29],fun u1=>[(103,vI u1)],fun u1=>[]⟩ ⟨[3,4,5,6,10,11],[0,1,2,3,4,5,6,23,25,28,29],fun _=>[],fun _=>[]⟩
  (fun u1=> .r<| .it (.r<| .a5 ((0:Int)<=u1/\u1<(r_.1.length:Int)) ((gB [(at' r_.1 u1.toNat,true)]=true->(0:Int)<=u1/\u1<(u3.1.length:Int))) (aa7 r_ u1 u3) (aa8 s_ r_ u1 u3) (aaS s_ r_ u1 u3)<| .rg {} [0,1,2,3, .tg 3 [(at' u3.1 u1.toNat,true),TD r_ u1 u3] u1 s_.ar.length,4]<| .it (.r<| .im (.ac 25 0 0 32)<| .en (.done (.ret (s_,false))) [] [(32,7),(25,8)])
  (.r<| .e (.next (k11 u1))))
  (.e (.done (.brk ()))))
  (fun _=> .cl 2 ⟨fun{u5} hr_3=>((Fn.uj (args:=(k22 s_ p)) (frz:=[0,1,2,3,4,5,6]) (p:=[s_.aq.length=s_.aq.length,s_.aw.length=s_.aw.length,s_.am.length=s_.am.length,s_.on_.length=s_.on_.length,s_.ag.length=s_.ag.length,s_.ar.length=s_.ar.length,s_.al.length=s_.al.length]) (Fn.yK [(0,33)] (kT p s_ hr_3) (by kernel_rfl) (by kernel_rfl) (by kernel_rfl) (by kernel_rfl)) (by kernel_rfl) ⟨rfl,rfl,rfl,rfl,rfl,rfl,rfl,trivial⟩ (by kernel_rfl) ⟨(fun _ j=>match j with|0=>rfl|1=>rfl|_+2=>rfl),trivial⟩ (by kernel_rfl)):Fn Tryz.prog 15 (YP p s_) (k40 s_) (.fF [.one (.own 33 false u5.1.length),sI u5.2]) [Xx s_,MW s_,Lx s_,LK s_,LU s_,Lf s_,MF s_,(33,some (aW 44 2 aB.cell u5.1))])⟩ fun u5=> .rg {fr:=[(6,34)],fz:=[33]} []<| .fz [34]<| .cl 2 ⟨fun{u6} hr_4=>((Fn.uj (args:=(abL p s_ x u0)) (frz:=[29,1,2,3,4,5,6]) (p:=[(GN x u0).length=(GN x u0).length,s_.aw.length=s_.aw.length,s_.am.length=s_.am.length,s_.on_.length=s_.on_.length,s_.ag.length=s_.ag.length,s_.ar.length=s_.ar.length,s_.al.length=s_.al.length]) (Fn.yK [(0,35)] (kT p (Zb s_ x u0) hr_4) (by kernel_rfl) (by kernel_rfl) (by kernel_rfl) (by kernel_rfl)) (by kernel_rfl) ⟨rfl,rfl,rfl,rfl,rfl,rfl,rfl,trivial⟩ (by kernel_rfl) ⟨(fun _ j=>match j with|0=>rfl|1=>rfl|_+2=>rfl),trivial⟩ (by kernel_rfl)):Fn Tryz.prog 15 (aax p s_ x u0) (Z8 s_ x u0) (.fF [.one (.own 35 false u6.1.length),sI u6.2]) [Yv x u0,MW s_,Lx s_,LK s_,LU s_,Lf s_,MF s_,(35,some (aW 44 2 aB.cell u6.1))])⟩ fun u6=> .rg {fz:=[35]} []<| .cg 9 [(!(at' u3.1 x.bi.toNat),false)] (mo u6.1 u5.1) fun u9=> .a1 ((0:Int)<=x.bi/\x.bi<(u3.1.length:Int))<| .rg {} [0,1]<| .it (.r<| .im (.ac 25 0 0 36)<| .en (s_,false) [] [(36,7),(25,8)])
  (.r<| .en (Zb s_ x u0,true) [] [(29,7),(25,8)]))))
  (.cl 2 ⟨fun{u4} hr_6=>((Fn.uj (args:=(abh p s_ x u0)) (frz:=[29,1,2,3,4,5,6]) (p:=[(zn x u0).length=(zn x u0).length,s_.aw.length=s_.aw.length,s_.am.length=s_.am.length,s_.on_.length=s_.on_.length,s_.ag.length=s_.ag.length,s_.ar.length=s_.ar.length,s_.al.length=s_.al.length]) (Fn.yK [(0,37)] (rR p (YE s_ x u0) hr_6) (by kernel_rfl) (by kernel_rfl) (by kernel_rfl) (by kernel_rfl)) (by kernel_rfl) ⟨rfl,rfl,rfl,rfl,rfl,rfl,rfl,trivial⟩ (by kernel_rfl) ⟨(fun _ _=>rfl),trivial⟩ (by kernel_rfl)):Fn Tryz.prog 14 (aay p s_ x u0) (ZN s_ x u0) (.fF [.one (.own 37 false u4.1.length),sI u4.2]) [Zi x u0,MW s_,Lx s_,LK s_,LU s_,Lf s_,MF s_,(37,some (aW 4 1 af u4.1))])⟩ fun u4=> .rg {fz:=[24,37]} []<| .r<| .lp (σ:=Int) (β:=Unit) (0) [] [] ⟨[3,4,5,6,8,10,11,102],[0,1,2,3,4,5,6,23,25,28,29],fun u2=>[(103,vI u2)],fun u2=>[]⟩ ⟨[3,4,5,6,10,11],[0,1,2,3,4,5,6,23,25,28,29],fun _=>[],fun _=>[]⟩
  (fun u2=> .r<| .it (.r<| .a5 ((0:Int)<=u2/\u2<(r_.1.length:Int)) ((gB [(at' r_.1 u2.toNat,true)]=true->(0:Int)<=u2/\u2<(u4.1.length:Int))) (aa7 r_ u2 u4) (aa8 s_ r_ u2 u4) (aaS s_ r_ u2 u4)<| .rg {} [0,1,2,3, .tg 3 [(at' u4.1 u2.toNat,true),TD r_ u2 u4] u2 s_.ar.length,4]<| .it (.r<| .im (.ac 25 0 0 38)<| .en (.done (.ret (s_,false))) [] [(38,7),(25,8)])
  (.r<| .e (.next (k11 u2))))
  (.e (.done (.brk ()))))
  (fun _=> .cl 2 ⟨fun{u7} hr_7=>((Fn.uj (args:=(k22 s_ p)) (frz:=[0,1,2,3,4,5,6]) (p:=[s_.aq.length=s_.aq.length,s_.aw.length=s_.aw.length,s_.am.length=s_.am.length,s_.on_.length=s_.on_.length,s_.ag.length=s_.ag.length,s_.ar.length=s_.ar.length,s_.al.length=s_.al.length]) (Fn.yK [(0,39)] (kT p s_ hr_7) (by kernel_rfl) (by kernel_rfl) (by kernel_rfl) (by kernel_rfl)) (by kernel_rfl) ⟨rfl,rfl,rfl,rfl,rfl,rfl,rfl,trivial⟩ (by kernel_rfl) ⟨(fun _ j=>match j with|0=>rfl|1=>rfl|_+2=>rfl),trivial⟩ (by kernel_rfl)):Fn Tryz.prog 15 (YP p s_) (k40 s_) (.fF [.one (.own 39 false u7.1.length),sI u7.2]) [Xx s_,MW s_,Lx s_,LK s_,LU s_,Lf s_,MF s_,(39,some (aW 44 2 aB.cell u7.1))])⟩ fun u7=> .rg {fr:=[(6,40)],fz:=[39]} []<| .fz [40]<| .cl 2 ⟨fun{u8} hr_8=>((Fn.uj (args:=(abh p s_ x u0)) (frz:=[29,1,2,3,4,5,6]) (p:=[(zn x u0).length=(zn x u0).length,s_.aw.length=s_.aw.length,s_.am.length=s_.am.length,s_.on_.length=s_.on_.length,s_.ag.length=s_.ag.length,s_.ar.length=s_.ar.length,s_.al.length=s_.al.length]) (Fn.yK [(0,41)] (kT p (YE s_ x u0) hr_8) (by kernel_rfl) (by kernel_rfl) (by kernel_rfl) (by kernel_rfl)) (by kernel_rfl) ⟨rfl,rfl,rfl,rfl,rfl,rfl,rfl,trivial⟩ (by kernel_rfl) ⟨(fun _ j=>match j with|0=>rfl|1=>rfl|_+2=>rfl),trivial⟩ (by kernel_rfl)):Fn Tryz.prog 15 (aay p s_ x u0) (ZN s_ x u0) (.fF [.one (.own 41 false u8.1.length),sI u8.2]) [Zi x u0,MW s_,Lx s_,LK s_,LU s_,Lf s_,MF s_,(41,some (aW 44 2 aB.cell u8.1))])⟩ fun u8=> .rg {fz:=[41]} []<| .cg 9 [(!(at' u4.1 x.bi.toNat),false)] (mo u8.1 u7.1) fun v0=> .a1 ((0:Int)<=x.bi/\x.bi<(u4.1.length:Int))<| .rg {} [0,1]<| .it (.r<| .im (.ac 25 0 0 42)<| .en (s_,false) [] [(42,7),(25,8)])
  (.r<| .en (YE s_ x u0,true) [] [(29,7),(25,8)])))))
section
variable (u7:List Bool) (u1:List Bool) (u2:List Bool) (u3:List Bool) (u4:List Bool) (u5:List Bool) (u6:List Bool)
abbrev aaG:List CV:=[.own 1 false u7.length,.own 2 false u1.length,.own 3 false u2.length,.own 4 false u3.length,.own 5 false u4.length,.own 6 false u5.length,.own 7 false u6.length]
abbrev aag:Ob:=(.cells 29 (aaG u7 u1 u2 u3 u4 u5 u6))
end
theorem xD (u0:Int) (u7:List Bool) (u1:List Bool) (u2:List Bool) (u3:List Bool) (u4:List Bool) (u5:List Bool) (u6:List Bool) (u8:State) (o_:List Int):YF Tryz.prog 0 [sI u0,.agg (aaG u7 u1 u2 u3 u4 u5 u6)] [(0,some (.loop jy 0 [(10,vP 8 0),(11,vP 9 0)])),(1,some (aW 4 1 af u7)),(2,some (aW 4 1 af u1)),(3,some (aW 4 1 af u2)),(4,some (aW 4 1 af u3)),(5,some (aW 4 1 af u4)),(6,some (aW 4 1 af u5)),(7,some (aW 4 1 af u6)),(8,some (.cells 29 [.own 10 false u8.aq.length,.own 2 false u1.length,.own 3 false u2.length,.own 4 false u3.length,.own 5 false u4.length,.own 6 false u5.length,.own 7 false u6.length])),(9,some (.cells 36 [.own 11 false o_.length])),(10,some (aW 4 1 af u8.aq)),(11,some (aW 3 1 (aH .i64) o_))] (fun _=>vB true) (fun r=>[(0,some (.loop jy 0 [(10,vP 8 0),(11,vP 9 0)])),(1,some (aW 4 1 af u7)),(2,some (aW 4 1 af u1)),(3,some (aW 4 1 af u2)),(4,some (aW 4 1 af u3)),(5,some (aW 4 1 af u4)),(6,some (aW 4 1 af u5)),(7,some (aW 4 1 af u6)),(8,some (aag u7 u1 u2 u3 u4 u5 u6)),(9,some (.cells 36 [.own 12 false r.2.length])),(10,some (aW 4 1 af u8.aq)),(11,none),(12,some (aW 3 1 (aH .i64) r.2))]) (su u0 u7 u1 u2 u3 u4 u5 u6 u8 o_):=
  scY tT mX jy ⟨[10,11],[0,1,2,3,4,5,6,7,8,9,10,11],fun _=>[(12,vI u0),(13,vP 15 0)],fun _=>[(15,some (aag u7 u1 u2 u3 u4 u5 u6))]⟩ (.r<| .rg {fr:=[(0,15)]} []<| .e ())
  (.r<| .a2 ((o_.length+[u0].length)*8<=140737488355328) (o_.length+[u0].length<=4611686018427387904)<| .rg {an:=[(2, .arr [u0].length (aj (aH .i64) [u0])),(3, .arr (o_++[u0]).length (aj (aH .i64) (o_++[u0])))],fr:=[(2,16),(3,17)]} [.pf ⟨[u0].length=1,rfl⟩, .pf ⟨aF 1 1 (lS 1 [.int .i64 u0]) (aj (aH .i64) [u0]),(by intro i hi j hj;match i,j,hi,hj with|0,0,_,_=>rfl)⟩, .e (o_.length),0,1, .pf ⟨(o_++[u0]).length=o_.length+[u0].length,cd⟩, .pf ⟨aF (o_.length+[u0].length) 1 (nY (aj (aH .i64) o_) o_.length (aj (aH .i64) [u0])) (aj (aH .i64) (o_++[u0])),bD _ _ _ _⟩]<| .en ((⟨u7,u1,u2,u3,u4,u5,u6⟩:State),o_++[u0]) [] [(17,12)])
section
variable (u0:State) (x1:List Transfer) (u2:List Bool) (r_:State × Bool) (x2:Int) (u4:List Source) (u5:List Link) (u6:List aL) (u1:Int)
abbrev ZK:Ob:=(.cells 29 [.own 4 false u0.aq.length,.own 5 false u0.aw.length,.own 6 false u0.am.length,.own 7 false u0.on_.length,.own 8 false u0.ag.length,.own 9 false u0.ar.length,.own 10 false u0.al.length])
abbrev U1:Nat × Option Ob:=(5,some (aW 4 1 af u0.aw))
abbrev U5:Nat × Option Ob:=(6,some (aW 4 1 af u0.am))
abbrev UK:Nat × Option Ob:=(7,some (aW 4 1 af u0.on_))
abbrev Ta:Nat × Option Ob:=(8,some (aW 4 1 af u0.ag))
abbrev Ua:Nat × Option Ob:=(9,some (aW 4 1 af u0.ar))
abbrev Ur:Nat × Option Ob:=(10,some (aW 4 1 af u0.al))
abbrev UC:=(List.replicate ((x1.length:Int).toNat) (false:Bool))
abbrev abD:List CV:=[.own 99 false u2.length,.own 5 false u0.aw.length,.own 6 false u0.am.length,.own 7 false u0.on_.length,.own 8 false u0.ag.length,.own 9 false u0.ar.length,.own 10 false u0.al.length]
abbrev aaB:Ob:=(.cells 29 (abD u0 u2))
abbrev abu:Nat × Option Ob:=(1,some (aaB u0 u2))
abbrev aa2:Nat × Option Ob:=(2,some (aaB u0 u2))
abbrev Vt:=(⟨u2,u0.aw,u0.am,u0.on_,u0.ag,u0.ar,u0.al⟩:State)
abbrev ZQ:List CV:=[.own 148 false r_.1.aq.length,.own 5 false u0.aw.length,.own 6 false u0.am.length,.own 7 false u0.on_.length,.own 8 false u0.ag.length,.own 9 false u0.ar.length,.own 10 false u0.al.length]
abbrev Rh:Ob:=(aW 4 1 af r_.1.aq)
abbrev Rb:List SV:=[.agg [cI x2,.d (k3 u4),.d (k4 u5),.d (k5 u6)],.agg (abD u0 u2),.agg [cI ((at' x1 u1.toNat).bi),cI ((at' x1 u1.toNat).open_),cI ((at' x1 u1.toNat).close)]]
abbrev Si:List (Nat × Option Ob):=[(99,some (aW 4 1 af u2)),U1 u0,U5 u0,UK u0,Ta u0,Ua u0,Ur u0]
abbrev Td:List CV:=[.own 7 false r_.1.aq.length,.own 1 false u0.aw.length,.own 2 false u0.am.length,.own 3 false u0.on_.length,.own 4 false u0.ag.length,.own 5 false u0.ar.length,.own 6 false u0.al.length]
abbrev aaN:TV:=(.fF [.agg (Td u0 r_),sB r_.2])
abbrev Z4:=(rE (swp [(0,99),(1,5),(2,6),(3,7),(4,8),(1,9),(2,10),(3,148),(4,149)]) [(0,some (aW 4 1 af u2)),MW u0,Lx u0,LK u0,LU u0,Lf u0,MF u0,(7,bif r_.2 then some (Rh r_)else none),(8,none)])
end
theorem Ar (x1:List Transfer) (x2:Int) (u4:List Source) (u5:List Link) (u6:List aL) (u0:State) (v0:State) (o_:List Int):dN Tryz.prog 102 [.one (.yl 0),sD (Jm [aZ none 3 Transfer.cell x1] 0),sD (k2 u4 u5 u6 x2),.one (.ptr 1 0)] [(0,some (.loop jy 0 [(10,vP 2 0),(11,vP 3 0)])),(1,some (ZK u0)),(2,some (ZK u0)),(3,some (.cells 36 [.own 11 false o_.length])),(4,some (aW 4 1 af u0.aq)),U1 u0,U5 u0,UK u0,Ta u0,Ua u0,Ur u0,(11,some (aW 3 1 (aH .i64) o_))] (fun r=>(.fF [])) (fun r=>[(0,some (.loop jy 0 [(10,vP 2 0),(11,vP 3 0)])),(1,some (.cells 29 [.own 12 false r.1.aq.length,.own 5 false u0.aw.length,.own 6 false u0.am.length,.own 7 false u0.on_.length,.own 8 false u0.ag.length,.own 9 false u0.ar.length,.own 10 false u0.al.length])),(2,some (.cells 29 [.own 12 false r.1.aq.length,.own 5 false u0.aw.length,.own 6 false u0.am.length,.own 7 false u0.on_.length,.own 8 false u0.ag.length,.own 9 false u0.ar.length,.own 10 false u0.al.length])),(3,some (.cells 36 [.own 13 false r.2.2.length])),(4,none),U1 u0,U5 u0,UK u0,Ta u0,Ua u0,Ur u0,(11,none),(12,some (aW 4 1 af r.1.aq)),(13,some (aW 3 1 (aH .i64) r.2.2))]) (wE x1 x2 u4 u5 u6 u0 v0 o_):=
  eF tT mX Tryz.func102 (
  .sp (σ:=((List Bool) × (List Int) × (List Bool))) (β:=((List Bool) × (List Int))) (u0.aq,o_,UC x1) ⟨[0,1,2,3],[0,5,6,7,8,9,10],fun(u2,u8,u3)=>[(5,vO 82 true u3.length)],fun(u2,u8,u3)=>[abu u0 u2,aa2 u0 u2,(3,some (.cells 36 [.own 100 false u8.length])),(4,none),(11,none),(82,some (aW 4 1 af u3)),(99,some (aW 4 1 af u2)),(100,some (aW 3 1 (aH .i64) u8))]⟩ ⟨[],[0,5,6,7,8,9,10],fun(u7,u9)=>[],fun(u7,u9)=>[abu u0 u7,aa2 u0 u7,(3,some (.cells 36 [.own 100 false u9.length])),(4,none),(11,none),(99,some (aW 4 1 af u7)),(100,some (aW 3 1 (aH .i64) u9))]⟩ (.a3 ((0:Int)<=(x1.length:Int)) ((1:Int)*(x1.length:Int)<=281474976710656) (((x1.length:Int):Int)<=9223372036854775807)<| .rg {an:=[(2, .arr (UC x1).length (aj af (UC x1)))],fr:=[(2,151)]} [0, .e (((x1.length:Int):Int)),1,2, .pf ⟨(UC x1).length=((x1.length:Int).toNat),dC⟩, .pf ⟨aF ((x1.length:Int).toNat) 1 (fun _ j=>[.bool false].getD j .nilp) (aj af (UC x1)),j6 _ _ _ _ _ (fun j hj=>(match j,hj with|0,_=>rfl))⟩]<| .im (.ra 4 152)<| .im (.re 3 0 11 153)<| .en () [] [(151,82),(152,99),(153,100)])
  (fun(u2,u8,u3)=> .r<| .lp (σ:=Int) (β:=Unit) (0) [] [] ⟨[0,1,2,3,5,13,14],[0,1,2,3,4,5,6,7,8,9,10,11,82,99,100],fun u1=>[(15,vI u1)],fun u1=>[]⟩ ⟨[],[0,1,2,3,4,5,6,7,8,9,10,11,99,100],fun _=>[],fun _=>[]⟩
  (fun u1=> .r<| .it (.a1 ((0:Int)<=u1/\u1<(x1.length:Int))<| .rg {fr:=[(3,147)],fz:=[147]} []<| .a1 (YL u3 u1)<| .rg {} [0, .t 0 u1 u3.length]<| .it (.r<| .e (.next (k11 u1)))
  (.cl 3 (mr [(0,99),(1,5),(2,6),(3,7),(4,8),(1,9),(2,10),(3,148),(4,149)] (Ef (⟨x2,u4,u5,u6⟩:ah) (Vt u0 u2) (at' x1 u1.toNat))) fun r_=> .fk r_.2 (.rg {an:=[(3, .call [99,5,6,7,8,9,10] (.fF [.agg (ZQ u0 r_),sB true]) [(99,some (aW 4 1 af u2)),U1 u0,U5 u0,UK u0,Ta u0,Ua u0,Ur u0,(148,some (Rh r_)),(149,none)])],fr:=[(7,150)]} [.m [1,0] [Fn Tryz.prog 103 (Rb u0 x1 u2 x2 u4 u5 u6 u1) (Si u0 u2) (TV.ren (swp [(0,99),(1,5),(2,6),(3,7),(4,8),(1,9),(2,10),(3,148),(4,149)]) (aaN u0 r_)) (Z4 u0 u2 r_),r_.2=true] (Fn Tryz.prog 103 (Rb u0 x1 u2 x2 u4 u5 u6 u1) (Si u0 u2) (TV.ren (swp [(0,99),(1,5),(2,6),(3,7),(4,8),(1,9),(2,10),(3,148),(4,149)]) (.fF [.agg (Td u0 r_),sB true])) (rE (swp [(0,99),(1,5),(2,6),(3,7),(4,8),(1,9),(2,10),(3,148),(4,149)]) [(0,some (aW 4 1 af u2)),MW u0,Lx u0,LK u0,LU u0,Lf u0,MF u0,(7,bif true then some (Rh r_)else none),(8,none)])) (fun⟨hy,hb2,_⟩=>(congrArg (fun bq=>Fn Tryz.prog 103 (Rb u0 x1 u2 x2 u4 u5 u6 u1) (Si u0 u2) (TV.ren (swp [(0,99),(1,5),(2,6),(3,7),(4,8),(1,9),(2,10),(3,148),(4,149)]) (.fF [.agg (Td u0 r_),sB bq])) (rE (swp [(0,99),(1,5),(2,6),(3,7),(4,8),(1,9),(2,10),(3,148),(4,149)]) [(0,some (aW 4 1 af u2)),MW u0,Lx u0,LK u0,LU u0,Lf u0,MF u0,(7,bif bq then some (Rh r_)else none),(8,none)])) hb2).mp hy)]<| .r<| .t<| .a1 (YL u3 u1)<| .rg {an:=[(5, .arr 0 (aj af (u3.set u1.toNat true)))]} [0, .t 0 u1 u3.length, .pf ⟨aF u3.length 1 (nR (aj af u3) u1.toNat 0 [.bool true]) (aj af (u3.set u1.toNat true)),dB _ _ _ _ _ _ _ _ rfl (fun j hj=>(match j,hj with|0,_=>rfl))⟩]<| .im (.ll 82 u3 (u3.set u1.toNat true))<| .cy 3 (rkY [(1,148),(2,5),(3,6),(4,7),(2,8),(3,9),(4,10),(4,99),(11,100),(12,151)] (xD u1 r_.1.aq u0.aw u0.am u0.on_ u0.ag u0.ar u0.al (Vt u0 u2) u8)) fun v1=> .r<| .f<| .en (.done (.ret (.next (r_.1.aq,v1.2,u3.set u1.toNat true)))) [] [(148,99),(151,100)])
  (.rg {an:=[(3, .call [99,5,6,7,8,9,10] (.fF [.agg (ZQ u0 r_),sB false]) [(99,some (aW 4 1 af u2)),U1 u0,U5 u0,UK u0,Ta u0,Ua u0,Ur u0,(148,none),(149,none)])],fr:=[(7,150)]} [.m [1,0] [Fn Tryz.prog 103 (Rb u0 x1 u2 x2 u4 u5 u6 u1) (Si u0 u2) (TV.ren (swp [(0,99),(1,5),(2,6),(3,7),(4,8),(1,9),(2,10),(3,148),(4,149)]) (aaN u0 r_)) (Z4 u0 u2 r_),r_.2=false] (Fn Tryz.prog 103 (Rb u0 x1 u2 x2 u4 u5 u6 u1) (Si u0 u2) (TV.ren (swp [(0,99),(1,5),(2,6),(3,7),(4,8),(1,9),(2,10),(3,148),(4,149)]) (.fF [.agg (Td u0 r_),sB false])) (rE (swp [(0,99),(1,5),(2,6),(3,7),(4,8),(1,9),(2,10),(3,148),(4,149)]) [(0,some (aW 4 1 af u2)),MW u0,Lx u0,LK u0,LU u0,Lf u0,MF u0,(7,bif false then some (Rh r_)else none),(8,none)])) (fun⟨hy,hb2,_⟩=>(congrArg (fun bq=>Fn Tryz.prog 103 (Rb u0 x1 u2 x2 u4 u5 u6 u1) (Si u0 u2) (TV.ren (swp [(0,99),(1,5),(2,6),(3,7),(4,8),(1,9),(2,10),(3,148),(4,149)]) (.fF [.agg (Td u0 r_),sB bq])) (rE (swp [(0,99),(1,5),(2,6),(3,7),(4,8),(1,9),(2,10),(3,148),(4,149)]) [(0,some (aW 4 1 af u2)),MW u0,Lx u0,LK u0,LU u0,Lf u0,MF u0,(7,bif bq then some (Rh r_)else none),(8,none)])) hb2).mp hy)]<| .r<| .f<| .r<| .e (.next (k11 u1)))))
  (.e (.done (.brk ()))))
  (fun _=> .e (.done (.brk (u2,u8)))))
  (fun(u7,u9)=> .en (Vt u0 u7,Vt u0 u7,u9) [] [(99,12),(100,13)]))
theorem qm (a:List Int) (b:List Int):dN Tryz.prog 20 [sD (aZ none 1 (aH .i64) a),sD (aZ none 1 (aH .i64) b)] [] (fun r=>(vB r)) (fun _=>[]) (qy a b):=
  eF tT mX Tryz.func20 (
  .r<| .r<| .it (.r<| .e false)
  (.r<| .lp (σ:=Int) (β:=Unit) (0) [] [] ⟨[0,1],[],fun i=>[(5,vI i)],fun i=>[]⟩ ⟨[],[],fun _=>[],fun _=>[]⟩
  (fun i=> .r<| .it (.a2 ((0:Int)<=i/\i<(a.length:Int)) ((0:Int)<=i/\i<(b.length:Int))<| .rg {} [0,1]<| .it (.r<| .e (.done (.ret false)))
  (.r<| .e (.next (k11 i))))
  (.e (.done (.brk ()))))
  (fun _=> .r<| .e true)))
theorem zy (s_:State):dN Tryz.prog 167 (k38 s_) [] (fun r=>(.v (.agg [.own 0 false r.aq.length,.own 1 false r.aw.length,.own 2 false r.am.length,.own 3 false r.on_.length,.own 4 false r.ag.length,.own 5 false r.ar.length,.own 6 false r.al.length]))) (fun r=>[(0,some (aW 4 1 af r.aq)),(1,some (aW 4 1 af r.aw)),(2,some (aW 4 1 af r.am)),(3,some (aW 4 1 af r.on_)),(4,some (aW 4 1 af r.ag)),(5,some (aW 4 1 af r.ar)),(6,some (aW 4 1 af r.al)),(7,none)]) (qc s_):=
  eF tT mX Tryz.func167 (
  .rg {fr:=[(0,10),(1,11)]} []<| .rg {an:=[(7, .cells)],fr:=[(7,12)]} []<| .ul 11<| .r<| .t<| .a1 ((0:Int)<=0/\0<(7:Int))<| .r<| .cl 4 (mr [(0,13)] ⟨fun h=>aP s_.aq h⟩) fun r_=> .r<| .r<| .im (.dp [1,2,12,13,14])<| .r<| .t<| .a1 ((0:Int)<=1/\1<(7:Int))<| .r<| .cl 4 (mr [(0,14)] ⟨fun h=>aP s_.aw h⟩) fun u0=> .r<| .r<| .im (.dp [1,2,12,13,14])<| .r<| .t<| .a1 ((0:Int)<=2/\2<(7:Int))<| .r<| .cl 4 (mr [(0,15)] ⟨fun h=>aP s_.am h⟩) fun u1=> .r<| .r<| .im (.dp [1,2,12,13,14])<| .r<| .t<| .a1 ((0:Int)<=3/\3<(7:Int))<| .r<| .cl 4 (mr [(0,16)] ⟨fun h=>aP s_.on_ h⟩) fun u2=> .r<| .r<| .im (.dp [1,2,12,13,14])<| .r<| .t<| .a1 ((0:Int)<=4/\4<(7:Int))<| .r<| .cl 4 (mr [(0,17)] ⟨fun h=>aP s_.ag h⟩) fun u3=> .r<| .r<| .im (.dp [1,2,12,13,14])<| .r<| .t<| .a1 ((0:Int)<=5/\5<(7:Int))<| .r<| .cl 4 (mr [(0,18)] ⟨fun h=>aP s_.ar h⟩) fun u4=> .r<| .r<| .im (.dp [1,2,12,13,14])<| .r<| .t<| .a1 ((0:Int)<=6/\6<(7:Int))<| .r<| .cl 4 (mr [(0,19)] ⟨fun h=>aP s_.al h⟩) fun u5=> .r<| .r<| .im (.dp [1,2,12,13,14])<| .r<| .f<| .r<| .en (⟨r_,u0,u1,u2,u3,u4,u5⟩:State) [] [(13,0),(14,1),(15,2),(16,3),(17,4),(18,5),(19,6),(11,7)])
end
end Sg
