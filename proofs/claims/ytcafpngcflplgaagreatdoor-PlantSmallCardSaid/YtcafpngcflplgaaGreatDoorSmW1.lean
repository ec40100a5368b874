import Derived.Test.YtcafpngcflplgaaGreatDoorSmW0
set_option linter.all false
namespace Sg
open Go Go.Proofs
set_option maxRecDepth 20000
noncomputable section
section
variable (t:ByteArray) (u0:ByteArray) (u1:List ByteArray) (p:af) (i:Int) (u5:ByteArray) (u8:ByteArray) (v1:ByteArray) (t2:ByteArray) (u2:ByteArray) (u4:ByteArray) (u6:List ByteArray) (i1:Int) (v0:ByteArray) (i2:Int) (t6:ByteArray) (u3:ByteArray) (u7:ByteArray) (u9:ByteArray) (v2:ByteArray)
abbrev WK:=(aA (aA t ⟨#[115,111,117,114,99,101,32]⟩) u0)
abbrev Ye:=(aA (WK t u0) ⟨#[32]⟩)
abbrev Yn:=(aA (Ye t u0) (at' u1 (((at' p.aa i.toNat).kind).toNat)))
abbrev WN:=(aA (Yn t u0 u1 p i) ⟨#[32]⟩)
abbrev Yt:=(aA (WN t u0 u1 p i) u5)
abbrev XB:=(aA (Yt t u0 u1 p i u5) ⟨#[32]⟩)
abbrev XY:=(aA (XB t u0 u1 p i u5) u8)
abbrev Wx:=(aA (XY t u0 u1 p i u5 u8) ⟨#[32]⟩)
abbrev Xb:=(aA (Wx t u0 u1 p i u5 u8) v1)
abbrev Xn:=(aA (aA (aA t2 ⟨#[108,105,110,107,32]⟩) u2) ⟨#[32]⟩)
abbrev Wm:=(aA (Xn t2 u2) u4)
abbrev Xa:=(aA (Wm t2 u2 u4) ⟨#[32]⟩)
abbrev X4:=(aA (Xa t2 u2 u4) (at' u6 (((at' p.ae i1.toNat).kind).toNat)))
abbrev Ws:=(aA (X4 p t2 u2 u4 u6 i1) ⟨#[32]⟩)
abbrev XC:=(aA (Ws p t2 u2 u4 u6 i1) v0)
abbrev Wu:=(aA (XC p t2 u2 u4 u6 i1 v0) ⟨#[32]⟩)
abbrev Pg:=((at' p.ac i2.toNat).aw)
abbrev NZ:=((Pg p i2).e0)
abbrev NP:=((Pg p i2).e1)
abbrev WT:=(aA (aA (aA t6 ⟨#[114,97,99,107,32]⟩) u3) ⟨#[32]⟩)
abbrev Yk:=(aA (WT t6 u3) u7)
abbrev Xx:=(aA (Yk t6 u3 u7) ⟨#[32]⟩)
abbrev XI:=(aA (Xx t6 u3 u7) u9)
abbrev Ym:=(aA (XI t6 u3 u7 u9) ⟨#[32]⟩)
abbrev WM:=(aA (Ym t6 u3 u7 u9) v2)
end
theorem AL (p:af):gK Tryz.prog 17 (k0 p) [] (fun r=>(.eB [sD (.str r.1),sI r.2])) (fun _=>[]) (oZ p):=
  iU tT mX Tryz.func17 (
  .rg {fr:=[(0,13)]} []<| .cl 1 (iL p) fun r_=> .r<| .r<| .it (.r<| .e (⟨#[]⟩,r_))
  (.cl 2 (aQ p.ag) fun v4=> .a2 ((⟨#[112,108,97,110,116,32]⟩:ByteArray).size+v4.size<=9223372036854775807) ((aA ⟨#[112,108,97,110,116,32]⟩ v4).size+(⟨#[10]⟩:ByteArray).size<=9223372036854775807)<| .rg {} [2,0,1]<| .r<| .lp (σ:=(ByteArray × Int)) (β:=ByteArray) (aA (aA ⟨#[112,108,97,110,116,32]⟩ v4) ⟨#[10]⟩,0) [] [] ⟨[1],[13],fun(t,i)=>[(5,vD (.str t)),(6,vI i)],fun(t,i)=>[]⟩ ⟨[1],[13],fun t1=>[(5,vD (.str t1))],fun t1=>[]⟩
  (fun(t,i)=> .r<| .it (.a1 (k19 i p)<| .rg {fr:=[(5,17)],fz:=[17]} []<| .cl 4 (aQ (Wp i p)) fun u0=> .cl 7 mo fun u1=> .cl 16 (aQ ((at' p.aa i.toNat).power)) fun u5=> .cl 21 (aQ ((at' p.aa i.toNat).bk)) fun u8=> .cl 26 (aQ ((at' p.aa i.toNat).ohm)) fun v1=> .as _ inferInstance [t.size+(⟨#[115,111,117,114,99,101,32]⟩:ByteArray).size<=9223372036854775807,(aA t ⟨#[115,111,117,114,99,101,32]⟩).size+u0.size<=9223372036854775807,(WK t u0).size+(⟨#[32]⟩:ByteArray).size<=9223372036854775807,(0:Int)<=(at' p.aa i.toNat).kind/\(at' p.aa i.toNat).kind<(u1.length:Int),(Ye t u0).size+(at' u1 (((at' p.aa i.toNat).kind).toNat)).size<=9223372036854775807,(Yn t u0 u1 p i).size+(⟨#[32]⟩:ByteArray).size<=9223372036854775807,(WN t u0 u1 p i).size+u5.size<=9223372036854775807,(Yt t u0 u1 p i u5).size+(⟨#[32]⟩:ByteArray).size<=9223372036854775807,(XB t u0 u1 p i u5).size+u8.size<=9223372036854775807,(XY t u0 u1 p i u5 u8).size+(⟨#[32]⟩:ByteArray).size<=9223372036854775807,(Wx t u0 u1 p i u5 u8).size+v1.size<=9223372036854775807,(Xb t u0 u1 p i u5 u8 v1).size+(⟨#[10]⟩:ByteArray).size<=9223372036854775807] (fun h=> ⟨h.1,h.2.1,h.2.2.1,h.2.2.2.1,h.2.2.2.2.1,h.2.2.2.2.2.1,h.2.2.2.2.2.2.1,h.2.2.2.2.2.2.2.1,h.2.2.2.2.2.2.2.2.1,h.2.2.2.2.2.2.2.2.2.1,h.2.2.2.2.2.2.2.2.2.2.1,h.2.2.2.2.2.2.2.2.2.2.2,trivial⟩:((t.size+(⟨#[115,111,117,114,99,101,32]⟩:ByteArray).size<=9223372036854775807)/\((aA t ⟨#[115,111,117,114,99,101,32]⟩).size+u0.size<=9223372036854775807)/\((WK t u0).size+(⟨#[32]⟩:ByteArray).size<=9223372036854775807)/\((0:Int)<=(at' p.aa i.toNat).kind/\(at' p.aa i.toNat).kind<(u1.length:Int))/\((Ye t u0).size+(at' u1 (((at' p.aa i.toNat).kind).toNat)).size<=9223372036854775807)/\((Yn t u0 u1 p i).size+(⟨#[32]⟩:ByteArray).size<=9223372036854775807)/\((WN t u0 u1 p i).size+u5.size<=9223372036854775807)/\((Yt t u0 u1 p i u5).size+(⟨#[32]⟩:ByteArray).size<=9223372036854775807)/\((XB t u0 u1 p i u5).size+u8.size<=9223372036854775807)/\((XY t u0 u1 p i u5 u8).size+(⟨#[32]⟩:ByteArray).size<=9223372036854775807)/\((Wx t u0 u1 p i u5 u8).size+v1.size<=9223372036854775807)/\((Xb t u0 u1 p i u5 u8 v1).size+(⟨#[10]⟩:ByteArray).size<=9223372036854775807))->_)<| .rg {} [0,16,1,2,15,3,4,5,14,6,7,13,8,9,12,10,11]<| .r<| .e (.next (aA (Xb t u0 u1 p i u5 u8 v1) ⟨#[10]⟩,k8 i)))
  (.e (.done (.brk t))))
  (fun t1=> .r<| .lp (σ:=(ByteArray × Int)) (β:=ByteArray) (t1,0) [] [] ⟨[1],[13],fun(t2,i1)=>[(5,vD (.str t2)),(8,vI i1)],fun(t2,i1)=>[]⟩ ⟨[1],[13],fun t3=>[(5,vD (.str t3))],fun t3=>[]⟩
  (fun(t2,i1)=> .r<| .it (.a1 (k20 p i1)<| .rg {fr:=[(5,21)],fz:=[21]} []<| .cl 4 (aQ ((at' p.ae i1.toNat).a)) fun u2=> .cl 9 (aQ ((at' p.ae i1.toNat).b)) fun u4=> .cl 12 nO fun u6=> .cl 21 (aQ ((at' p.ae i1.toNat).most)) fun v0=> .cl 26 (aQ ((at' p.ae i1.toNat).ohm)) fun v5=> .as _ inferInstance [t2.size+(⟨#[108,105,110,107,32]⟩:ByteArray).size<=9223372036854775807,(aA t2 ⟨#[108,105,110,107,32]⟩).size+u2.size<=9223372036854775807,(aA (aA t2 ⟨#[108,105,110,107,32]⟩) u2).size+(⟨#[32]⟩:ByteArray).size<=9223372036854775807,(Xn t2 u2).size+u4.size<=9223372036854775807,(Wm t2 u2 u4).size+(⟨#[32]⟩:ByteArray).size<=9223372036854775807,(0:Int)<=(at' p.ae i1.toNat).kind/\(at' p.ae i1.toNat).kind<(u6.length:Int),(Xa t2 u2 u4).size+(at' u6 (((at' p.ae i1.toNat).kind).toNat)).size<=9223372036854775807,(X4 p t2 u2 u4 u6 i1).size+(⟨#[32]⟩:ByteArray).size<=9223372036854775807,(Ws p t2 u2 u4 u6 i1).size+v0.size<=9223372036854775807,(XC p t2 u2 u4 u6 i1 v0).size+(⟨#[32]⟩:ByteArray).size<=9223372036854775807,(Wu p t2 u2 u4 u6 i1 v0).size+v5.size<=9223372036854775807] (fun h=> ⟨h.1,h.2.1,h.2.2.1,h.2.2.2.1,h.2.2.2.2.1,h.2.2.2.2.2.1,h.2.2.2.2.2.2.1,h.2.2.2.2.2.2.2.1,h.2.2.2.2.2.2.2.2.1,h.2.2.2.2.2.2.2.2.2.1,h.2.2.2.2.2.2.2.2.2.2,trivial⟩:((t2.size+(⟨#[108,105,110,107,32]⟩:ByteArray).size<=9223372036854775807)/\((aA t2 ⟨#[108,105,110,107,32]⟩).size+u2.size<=9223372036854775807)/\((aA (aA t2 ⟨#[108,105,110,107,32]⟩) u2).size+(⟨#[32]⟩:ByteArray).size<=9223372036854775807)/\((Xn t2 u2).size+u4.size<=9223372036854775807)/\((Wm t2 u2 u4).size+(⟨#[32]⟩:ByteArray).size<=9223372036854775807)/\((0:Int)<=(at' p.ae i1.toNat).kind/\(at' p.ae i1.toNat).kind<(u6.length:Int))/\((Xa t2 u2 u4).size+(at' u6 (((at' p.ae i1.toNat).kind).toNat)).size<=9223372036854775807)/\((X4 p t2 u2 u4 u6 i1).size+(⟨#[32]⟩:ByteArray).size<=9223372036854775807)/\((Ws p t2 u2 u4 u6 i1).size+v0.size<=9223372036854775807)/\((XC p t2 u2 u4 u6 i1 v0).size+(⟨#[32]⟩:ByteArray).size<=9223372036854775807)/\((Wu p t2 u2 u4 u6 i1 v0).size+v5.size<=9223372036854775807))->_)<| .rg {} [0,15,1,2,14,3,4,13,5,6,7,12,8,9,11,10]<| .r<| .lp (σ:=(ByteArray × Int)) (β:=ByteArray) (aA (Wu p t2 u2 u4 u6 i1 v0) v5,0) [] [] ⟨[1,8,9],[13],fun(t4,kz)=>[(5,vD (.str t4)),(10,vI kz)],fun(t4,kz)=>[]⟩ ⟨[1,8],[13],fun t5=>[(5,vD (.str t5))],fun t5=>[]⟩
  (fun(t4,kz)=> .r<| .it (.cl 8 (aQ ((at' ((at' p.ae i1.toNat).trip) kz.toNat).bp)) fun v3=> .cl 17 (aQ ((at' ((at' p.ae i1.toNat).trip) kz.toNat).bj)) fun v6=> .a5 (t4.size+(⟨#[32]⟩:ByteArray).size<=9223372036854775807) ((0:Int)<=kz/\kz<(((at' p.ae i1.toNat).trip).length:Int)) ((aA t4 ⟨#[32]⟩).size+v3.size<=9223372036854775807) ((aA (aA t4 ⟨#[32]⟩) v3).size+(⟨#[58]⟩:ByteArray).size<=9223372036854775807) ((aA (aA (aA t4 ⟨#[32]⟩) v3) ⟨#[58]⟩).size+v6.size<=9223372036854775807)<| .rg {} [0,1,6,2,3,1,5,4]<| .r<| .e (.next (aA (aA (aA (aA t4 ⟨#[32]⟩) v3) ⟨#[58]⟩) v6,k8 kz)))
  (.e (.done (.brk t4))))
  (fun t5=> .a1 (t5.size+(⟨#[10]⟩:ByteArray).size<=9223372036854775807)<| .r<| .r<| .e (.next (aA t5 ⟨#[10]⟩,k8 i1))))
  (.e (.done (.brk t2))))
  (fun t3=> .r<| .lp (σ:=(ByteArray × Int)) (β:=ByteArray) (t3,0) [] [] ⟨[1],[13],fun(t6,i2)=>[(5,vD (.str t6)),(11,vI i2)],fun(t6,i2)=>[]⟩ ⟨[],[],fun t7=>[(5,vD (.str t7))],fun t7=>[]⟩
  (fun(t6,i2)=> .r<| .it (.a1 (k21 p i2)<| .rg {fr:=[(5,25)],fz:=[25]} []<| .cl 5 (aQ (NZ p i2)) fun u3=> .cl 11 (aQ (NP p i2)) fun u7=> .cl 16 (aQ ((at' p.ac i2.toNat).power)) fun u9=> .cl 21 (aQ ((at' p.ac i2.toNat).bi)) fun v2=> .as _ inferInstance [t6.size+(⟨#[114,97,99,107,32]⟩:ByteArray).size<=9223372036854775807,(aA t6 ⟨#[114,97,99,107,32]⟩).size+u3.size<=9223372036854775807,(aA (aA t6 ⟨#[114,97,99,107,32]⟩) u3).size+(⟨#[32]⟩:ByteArray).size<=9223372036854775807,(WT t6 u3).size+u7.size<=9223372036854775807,(Yk t6 u3 u7).size+(⟨#[32]⟩:ByteArray).size<=9223372036854775807,(Xx t6 u3 u7).size+u9.size<=9223372036854775807,(XI t6 u3 u7 u9).size+(⟨#[32]⟩:ByteArray).size<=9223372036854775807,(Ym t6 u3 u7 u9).size+v2.size<=9223372036854775807,(WM t6 u3 u7 u9 v2).size+(⟨#[10]⟩:ByteArray).size<=9223372036854775807] (fun h=> ⟨h.1,h.2.1,h.2.2.1,h.2.2.2.1,h.2.2.2.2.1,h.2.2.2.2.2.1,h.2.2.2.2.2.2.1,h.2.2.2.2.2.2.2.1,h.2.2.2.2.2.2.2.2,trivial⟩:((t6.size+(⟨#[114,97,99,107,32]⟩:ByteArray).size<=9223372036854775807)/\((aA t6 ⟨#[114,97,99,107,32]⟩).size+u3.size<=9223372036854775807)/\((aA (aA t6 ⟨#[114,97,99,107,32]⟩) u3).size+(⟨#[32]⟩:ByteArray).size<=9223372036854775807)/\((WT t6 u3).size+u7.size<=9223372036854775807)/\((Yk t6 u3 u7).size+(⟨#[32]⟩:ByteArray).size<=9223372036854775807)/\((Xx t6 u3 u7).size+u9.size<=9223372036854775807)/\((XI t6 u3 u7 u9).size+(⟨#[32]⟩:ByteArray).size<=9223372036854775807)/\((Ym t6 u3 u7 u9).size+v2.size<=9223372036854775807)/\((WM t6 u3 u7 u9 v2).size+(⟨#[10]⟩:ByteArray).size<=9223372036854775807))->_)<| .rg {} [0, .pf ⟨(0:Int)<=0/\(0:Int)<(2:Nat),(by decide)⟩,12,1,2, .pf ⟨(0:Int)<=1/\(1:Int)<(2:Nat),(by decide)⟩,11,3,4,10,5,6,9,7,8]<| .r<| .e (.next (aA (WM t6 u3 u7 u9 v2) ⟨#[10]⟩,k8 i2)))
  (.e (.done (.brk t6))))
  (fun t7=> .r<| .e (t7,0))))))
theorem rV:gK Tryz.prog 63 [] [] (fun r=>(.v (.one (.mp 0)))) (fun r=>[(0,some (Me 9 65 false false 1 1 cZ (aN .i64) r))]) (kG):=
  iU tT mX Tryz.func63 (
  .r<| .rg {an:=[(0, .map 0 (kI cZ ([]:(List (ByteArray × Int)))) (kT (aN .i64) ([]:(List (ByteArray × Int)))) []),(1, .map (aG bn ⟨#[103,114,105,100]⟩ 1 ([]:(List (ByteArray × Int)))).length (kI cZ (aG bn ⟨#[103,114,105,100]⟩ 1 ([]:(List (ByteArray × Int))))) (kT (aN .i64) (aG bn ⟨#[103,114,105,100]⟩ 1 ([]:(List (ByteArray × Int))))) []),(2, .map (aG bn ⟨#[103,101,110,101,114,97,116,111,114]⟩ 2 (aG bn ⟨#[103,114,105,100]⟩ 1 ([]:(List (ByteArray × Int))))).length (kI cZ (aG bn ⟨#[103,101,110,101,114,97,116,111,114]⟩ 2 (aG bn ⟨#[103,114,105,100]⟩ 1 ([]:(List (ByteArray × Int)))))) (kT (aN .i64) (aG bn ⟨#[103,101,110,101,114,97,116,111,114]⟩ 2 (aG bn ⟨#[103,114,105,100]⟩ 1 ([]:(List (ByteArray × Int)))))) []),(3, .map (aG bn ⟨#[98,97,116,116,101,114,121]⟩ 3 (aG bn ⟨#[103,101,110,101,114,97,116,111,114]⟩ 2 (aG bn ⟨#[103,114,105,100]⟩ 1 ([]:(List (ByteArray × Int)))))).length (kI cZ (aG bn ⟨#[98,97,116,116,101,114,121]⟩ 3 (aG bn ⟨#[103,101,110,101,114,97,116,111,114]⟩ 2 (aG bn ⟨#[103,114,105,100]⟩ 1 ([]:(List (ByteArray × Int))))))) (kT (aN .i64) (aG bn ⟨#[98,97,116,116,101,114,121]⟩ 3 (aG bn ⟨#[103,101,110,101,114,97,116,111,114]⟩ 2 (aG bn ⟨#[103,114,105,100]⟩ 1 ([]:(List (ByteArray × Int))))))) [])],fr:=[(0,1)]} [.pf ⟨iQ [.s] 1 1 ([]:(List (ByteArray × Int))).length (kI cZ ([]:(List (ByteArray × Int)))) (kT (aN .i64) ([]:(List (ByteArray × Int)))) [.str ⟨#[103,114,105,100]⟩] [cI 1] [] (aG bn ⟨#[103,114,105,100]⟩ 1 ([]:(List (ByteArray × Int)))).length (kI cZ (aG bn ⟨#[103,114,105,100]⟩ 1 ([]:(List (ByteArray × Int))))) (kT (aN .i64) (aG bn ⟨#[103,114,105,100]⟩ 1 ([]:(List (ByteArray × Int))))),iN (fun _=>rfl) (fun _ _=>rfl) ([]:(List (ByteArray × Int))) ⟨#[103,114,105,100]⟩ 1 rfl rfl⟩, .pf ⟨iQ [.s] 1 1 (aG bn ⟨#[103,114,105,100]⟩ 1 ([]:(List (ByteArray × Int)))).length (kI cZ (aG bn ⟨#[103,114,105,100]⟩ 1 ([]:(List (ByteArray × Int))))) (kT (aN .i64) (aG bn ⟨#[103,114,105,100]⟩ 1 ([]:(List (ByteArray × Int))))) [.str ⟨#[103,101,110,101,114,97,116,111,114]⟩] [cI 2] [] (aG bn ⟨#[103,101,110,101,114,97,116,111,114]⟩ 2 (aG bn ⟨#[103,114,105,100]⟩ 1 ([]:(List (ByteArray × Int))))).length (kI cZ (aG bn ⟨#[103,101,110,101,114,97,116,111,114]⟩ 2 (aG bn ⟨#[103,114,105,100]⟩ 1 ([]:(List (ByteArray × Int)))))) (kT (aN .i64) (aG bn ⟨#[103,101,110,101,114,97,116,111,114]⟩ 2 (aG bn ⟨#[103,114,105,100]⟩ 1 ([]:(List (ByteArray × Int)))))),iN (fun _=>rfl) (fun _ _=>rfl) (aG bn ⟨#[103,114,105,100]⟩ 1 ([]:(List (ByteArray × Int)))) ⟨#[103,101,110,101,114,97,116,111,114]⟩ 2 rfl rfl⟩, .pf ⟨iQ [.s] 1 1 (aG bn ⟨#[103,101,110,101,114,97,116,111,114]⟩ 2 (aG bn ⟨#[103,114,105,100]⟩ 1 ([]:(List (ByteArray × Int))))).length (kI cZ (aG bn ⟨#[103,101,110,101,114,97,116,111,114]⟩ 2 (aG bn ⟨#[103,114,105,100]⟩ 1 ([]:(List (ByteArray × Int)))))) (kT (aN .i64) (aG bn ⟨#[103,101,110,101,114,97,116,111,114]⟩ 2 (aG bn ⟨#[103,114,105,100]⟩ 1 ([]:(List (ByteArray × Int)))))) [.str ⟨#[98,97,116,116,101,114,121]⟩] [cI 3] [] (aG bn ⟨#[98,97,116,116,101,114,121]⟩ 3 (aG bn ⟨#[103,101,110,101,114,97,116,111,114]⟩ 2 (aG bn ⟨#[103,114,105,100]⟩ 1 ([]:(List (ByteArray × Int)))))).length (kI cZ (aG bn ⟨#[98,97,116,116,101,114,121]⟩ 3 (aG bn ⟨#[103,101,110,101,114,97,116,111,114]⟩ 2 (aG bn ⟨#[103,114,105,100]⟩ 1 ([]:(List (ByteArray × Int))))))) (kT (aN .i64) (aG bn ⟨#[98,97,116,116,101,114,121]⟩ 3 (aG bn ⟨#[103,101,110,101,114,97,116,111,114]⟩ 2 (aG bn ⟨#[103,114,105,100]⟩ 1 ([]:(List (ByteArray × Int))))))),iN (fun _=>rfl) (fun _ _=>rfl) (aG bn ⟨#[103,101,110,101,114,97,116,111,114]⟩ 2 (aG bn ⟨#[103,114,105,100]⟩ 1 ([]:(List (ByteArray × Int))))) ⟨#[98,97,116,116,101,114,121]⟩ 3 rfl rfl⟩]<| .en (aG bn ⟨#[98,97,116,116,101,114,121]⟩ 3 (aG bn ⟨#[103,101,110,101,114,97,116,111,114]⟩ 2 (aG bn ⟨#[103,114,105,100]⟩ 1 ([]:(List (ByteArray × Int)))))) [] [(1,0)])
theorem wG:gK Tryz.prog 65 [] [] (fun r=>(.v (.one (.mp 0)))) (fun r=>[(0,some (Me 9 68 false false 1 1 cZ (aN .i64) r))]) (mr):=
  iU tT mX Tryz.func65 (
  .r<| .rg {an:=[(0, .map 0 (kI cZ ([]:(List (ByteArray × Int)))) (kT (aN .i64) ([]:(List (ByteArray × Int)))) []),(1, .map (aG bn ⟨#[99,97,98,108,101]⟩ 1 ([]:(List (ByteArray × Int)))).length (kI cZ (aG bn ⟨#[99,97,98,108,101]⟩ 1 ([]:(List (ByteArray × Int))))) (kT (aN .i64) (aG bn ⟨#[99,97,98,108,101]⟩ 1 ([]:(List (ByteArray × Int))))) []),(2, .map (aG bn ⟨#[115,119,105,116,99,104]⟩ 2 (aG bn ⟨#[99,97,98,108,101]⟩ 1 ([]:(List (ByteArray × Int))))).length (kI cZ (aG bn ⟨#[115,119,105,116,99,104]⟩ 2 (aG bn ⟨#[99,97,98,108,101]⟩ 1 ([]:(List (ByteArray × Int)))))) (kT (aN .i64) (aG bn ⟨#[115,119,105,116,99,104]⟩ 2 (aG bn ⟨#[99,97,98,108,101]⟩ 1 ([]:(List (ByteArray × Int)))))) []),(3, .map (aG bn ⟨#[98,114,101,97,107,101,114]⟩ 3 (aG bn ⟨#[115,119,105,116,99,104]⟩ 2 (aG bn ⟨#[99,97,98,108,101]⟩ 1 ([]:(List (ByteArray × Int)))))).length (kI cZ (aG bn ⟨#[98,114,101,97,107,101,114]⟩ 3 (aG bn ⟨#[115,119,105,116,99,104]⟩ 2 (aG bn ⟨#[99,97,98,108,101]⟩ 1 ([]:(List (ByteArray × Int))))))) (kT (aN .i64) (aG bn ⟨#[98,114,101,97,107,101,114]⟩ 3 (aG bn ⟨#[115,119,105,116,99,104]⟩ 2 (aG bn ⟨#[99,97,98,108,101]⟩ 1 ([]:(List (ByteArray × Int))))))) [])],fr:=[(0,1)]} [.pf ⟨iQ [.s] 1 1 ([]:(List (ByteArray × Int))).length (kI cZ ([]:(List (ByteArray × Int)))) (kT (aN .i64) ([]:(List (ByteArray × Int)))) [.str ⟨#[99,97,98,108,101]⟩] [cI 1] [] (aG bn ⟨#[99,97,98,108,101]⟩ 1 ([]:(List (ByteArray × Int)))).length (kI cZ (aG bn ⟨#[99,97,98,108,101]⟩ 1 ([]:(List (ByteArray × Int))))) (kT (aN .i64) (aG bn ⟨#[99,97,98,108,101]⟩ 1 ([]:(List (ByteArray × Int))))),iN (fun _=>rfl) (fun _ _=>rfl) ([]:(List (ByteArray × Int))) ⟨#[99,97,98,108,101]⟩ 1 rfl rfl⟩, .pf ⟨iQ [.s] 1 1 (aG bn ⟨#[99,97,98,108,101]⟩ 1 ([]:(List (ByteArray × Int)))).length (kI cZ (aG bn ⟨#[99,97,98,108,101]⟩ 1 ([]:(List (ByteArray × Int))))) (kT (aN .i64) (aG bn ⟨#[99,97,98,108,101]⟩ 1 ([]:(List (ByteArray × Int))))) [.str ⟨#[115,119,105,116,99,104]⟩] [cI 2] [] (aG bn ⟨#[115,119,105,116,99,104]⟩ 2 (aG bn ⟨#[99,97,98,108,101]⟩ 1 ([]:(List (ByteArray × Int))))).length (kI cZ (aG bn ⟨#[115,119,105,116,99,104]⟩ 2 (aG bn ⟨#[99,97,98,108,101]⟩ 1 ([]:(List (ByteArray × Int)))))) (kT (aN .i64) (aG bn ⟨#[115,119,105,116,99,104]⟩ 2 (aG bn ⟨#[99,97,98,108,101]⟩ 1 ([]:(List (ByteArray × Int)))))),iN (fun _=>rfl) (fun _ _=>rfl) (aG bn ⟨#[99,97,98,108,101]⟩ 1 ([]:(List (ByteArray × Int)))) ⟨#[115,119,105,116,99,104]⟩ 2 rfl rfl⟩, .pf ⟨iQ [.s] 1 1 (aG bn ⟨#[115,119,105,116,99,104]⟩ 2 (aG bn ⟨#[99,97,98,108,101]⟩ 1 ([]:(List (ByteArray × Int))))).length (kI cZ (aG bn ⟨#[115,119,105,116,99,104]⟩ 2 (aG bn ⟨#[99,97,98,108,101]⟩ 1 ([]:(List (ByteArray × Int)))))) (kT (aN .i64) (aG bn ⟨#[115,119,105,116,99,104]⟩ 2 (aG bn ⟨#[99,97,98,108,101]⟩ 1 ([]:(List (ByteArray × Int)))))) [.str ⟨#[98,114,101,97,107,101,114]⟩] [cI 3] [] (aG bn ⟨#[98,114,101,97,107,101,114]⟩ 3 (aG bn ⟨#[115,119,105,116,99,104]⟩ 2 (aG bn ⟨#[99,97,98,108,101]⟩ 1 ([]:(List (ByteArray × Int)))))).length (kI cZ (aG bn ⟨#[98,114,101,97,107,101,114]⟩ 3 (aG bn ⟨#[115,119,105,116,99,104]⟩ 2 (aG bn ⟨#[99,97,98,108,101]⟩ 1 ([]:(List (ByteArray × Int))))))) (kT (aN .i64) (aG bn ⟨#[98,114,101,97,107,101,114]⟩ 3 (aG bn ⟨#[115,119,105,116,99,104]⟩ 2 (aG bn ⟨#[99,97,98,108,101]⟩ 1 ([]:(List (ByteArray × Int))))))),iN (fun _=>rfl) (fun _ _=>rfl) (aG bn ⟨#[115,119,105,116,99,104]⟩ 2 (aG bn ⟨#[99,97,98,108,101]⟩ 1 ([]:(List (ByteArray × Int))))) ⟨#[98,114,101,97,107,101,114]⟩ 3 rfl rfl⟩]<| .en (aG bn ⟨#[98,114,101,97,107,101,114]⟩ 3 (aG bn ⟨#[115,119,105,116,99,104]⟩ 2 (aG bn ⟨#[99,97,98,108,101]⟩ 1 ([]:(List (ByteArray × Int)))))) [] [(1,0)])
theorem BU:gK Tryz.prog 122 [] [] (fun r=>(.v (.one (.mp 0)))) (fun r=>[(0,some (Me 9 3 false false 1 1 cZ (aN .i64) r))]) (qG):=
  iU tT mX Tryz.func122 (
  .r<| .rg {an:=[(0, .map 0 (kI cZ ([]:(List (ByteArray × Int)))) (kT (aN .i64) ([]:(List (ByteArray × Int)))) []),(1, .map (aG bn ⟨#[112,108,97,110,116]⟩ 1 ([]:(List (ByteArray × Int)))).length (kI cZ (aG bn ⟨#[112,108,97,110,116]⟩ 1 ([]:(List (ByteArray × Int))))) (kT (aN .i64) (aG bn ⟨#[112,108,97,110,116]⟩ 1 ([]:(List (ByteArray × Int))))) []),(2, .map (aG bn ⟨#[115,111,117,114,99,101]⟩ 2 (aG bn ⟨#[112,108,97,110,116]⟩ 1 ([]:(List (ByteArray × Int))))).length (kI cZ (aG bn ⟨#[115,111,117,114,99,101]⟩ 2 (aG bn ⟨#[112,108,97,110,116]⟩ 1 ([]:(List (ByteArray × Int)))))) (kT (aN .i64) (aG bn ⟨#[115,111,117,114,99,101]⟩ 2 (aG bn ⟨#[112,108,97,110,116]⟩ 1 ([]:(List (ByteArray × Int)))))) []),(3, .map (aG bn ⟨#[108,105,110,107]⟩ 3 (aG bn ⟨#[115,111,117,114,99,101]⟩ 2 (aG bn ⟨#[112,108,97,110,116]⟩ 1 ([]:(List (ByteArray × Int)))))).length (kI cZ (aG bn ⟨#[108,105,110,107]⟩ 3 (aG bn ⟨#[115,111,117,114,99,101]⟩ 2 (aG bn ⟨#[112,108,97,110,116]⟩ 1 ([]:(List (ByteArray × Int))))))) (kT (aN .i64) (aG bn ⟨#[108,105,110,107]⟩ 3 (aG bn ⟨#[115,111,117,114,99,101]⟩ 2 (aG bn ⟨#[112,108,97,110,116]⟩ 1 ([]:(List (ByteArray × Int))))))) []),(4, .map (aG bn ⟨#[114,97,99,107]⟩ 4 (aG bn ⟨#[108,105,110,107]⟩ 3 (aG bn ⟨#[115,111,117,114,99,101]⟩ 2 (aG bn ⟨#[112,108,97,110,116]⟩ 1 ([]:(List (ByteArray × Int))))))).length (kI cZ (aG bn ⟨#[114,97,99,107]⟩ 4 (aG bn ⟨#[108,105,110,107]⟩ 3 (aG bn ⟨#[115,111,117,114,99,101]⟩ 2 (aG bn ⟨#[112,108,97,110,116]⟩ 1 ([]:(List (ByteArray × Int)))))))) (kT (aN .i64) (aG bn ⟨#[114,97,99,107]⟩ 4 (aG bn ⟨#[108,105,110,107]⟩ 3 (aG bn ⟨#[115,111,117,114,99,101]⟩ 2 (aG bn ⟨#[112,108,97,110,116]⟩ 1 ([]:(List (ByteArray × Int)))))))) [])],fr:=[(0,1)]} [.pf ⟨iQ [.s] 1 1 ([]:(List (ByteArray × Int))).length (kI cZ ([]:(List (ByteArray × Int)))) (kT (aN .i64) ([]:(List (ByteArray × Int)))) [.str ⟨#[112,108,97,110,116]⟩] [cI 1] [] (aG bn ⟨#[112,108,97,110,116]⟩ 1 ([]:(List (ByteArray × Int)))).length (kI cZ (aG bn ⟨#[112,108,97,110,116]⟩ 1 ([]:(List (ByteArray × Int))))) (kT (aN .i64) (aG bn ⟨#[112,108,97,110,116]⟩ 1 ([]:(List (ByteArray × Int))))),iN (fun _=>rfl) (fun _ _=>rfl) ([]:(List (ByteArray × Int))) ⟨#[112,108,97,110,116]⟩ 1 rfl rfl⟩, .pf ⟨iQ [.s] 1 1 (aG bn ⟨#[112,108,97,110,116]⟩ 1 ([]:(List (ByteArray × Int)))).length (kI cZ (aG bn ⟨#[112,108,97,110,116]⟩ 1 ([]:(List (ByteArray × Int))))) (kT (aN .i64) (aG bn ⟨#[112,108,97,110,116]⟩ 1 ([]:(List (ByteArray × Int))))) [.str ⟨#[115,111,117,114,99,101]⟩] [cI 2] [] (aG bn ⟨#[115,111,117,114,99,101]⟩ 2 (aG bn ⟨#[112,108,97,110,116]⟩ 1 ([]:(List (ByteArray × Int))))).length (kI cZ (aG bn ⟨#[115,111,117,114,99,101]⟩ 2 (aG bn ⟨#[112,108,97,110,116]⟩ 1 ([]:(List (ByteArray × Int)))))) (kT (aN .i64) (aG bn ⟨#[115,111,117,114,99,101]⟩ 2 (aG bn ⟨#[112,108,97,110,116]⟩ 1 ([]:(List (ByteArray × Int)))))),iN (fun _=>rfl) (fun _ _=>rfl) (aG bn ⟨#[112,108,97,110,116]⟩ 1 ([]:(List (ByteArray × Int)))) ⟨#[115,111,117,114,99,101]⟩ 2 rfl rfl⟩, .pf ⟨iQ [.s] 1 1 (aG bn ⟨#[115,111,117,114,99,101]⟩ 2 (aG bn ⟨#[112,108,97,110,116]⟩ 1 ([]:(List (ByteArray × Int))))).length (kI cZ (aG bn ⟨#[115,111,117,114,99,101]⟩ 2 (aG bn ⟨#[112,108,97,110,116]⟩ 1 ([]:(List (ByteArray × Int)))))) (kT (aN .i64) (aG bn ⟨#[115,111,117,114,99,101]⟩ 2 (aG bn ⟨#[112,108,97,110,116]⟩ 1 ([]:(List (ByteArray × Int)))))) [.str ⟨#[108,105,110,107]⟩] [cI 3] [] (aG bn ⟨#[108,105,110,107]⟩ 3 (aG bn ⟨#[115,111,117,114,99,101]⟩ 2 (aG bn ⟨#[112,108,97,110,116]⟩ 1 ([]:(List (ByteArray × Int)))))).length (kI cZ (aG bn ⟨#[108,105,110,107]⟩ 3 (aG bn ⟨#[115,111,117,114,99,101]⟩ 2 (aG bn ⟨#[112,108,97,110,116]⟩ 1 ([]:(List (ByteArray × Int))))))) (kT (aN .i64) (aG bn ⟨#[108,105,110,107]⟩ 3 (aG bn ⟨#[115,111,117,114,99,101]⟩ 2 (aG bn ⟨#[112,108,97,110,116]⟩ 1 ([]:(List (ByteArray × Int))))))),iN (fun _=>rfl) (fun _ _=>rfl) (aG bn ⟨#[115,111,117,114,99,101]⟩ 2 (aG bn ⟨#[112,108,97,110,116]⟩ 1 ([]:(List (ByteArray × Int))))) ⟨#[108,105,110,107]⟩ 3 rfl rfl⟩, .pf ⟨iQ [.s] 1 1 (aG bn ⟨#[108,105,110,107]⟩ 3 (aG bn ⟨#[115,111,117,114,99,101]⟩ 2 (aG bn ⟨#[112,108,97,110,116]⟩ 1 ([]:(List (ByteArray × Int)))))).length (kI cZ (aG bn ⟨#[108,105,110,107]⟩ 3 (aG bn ⟨#[115,111,117,114,99,101]⟩ 2 (aG bn ⟨#[112,108,97,110,116]⟩ 1 ([]:(List (ByteArray × Int))))))) (kT (aN .i64) (aG bn ⟨#[108,105,110,107]⟩ 3 (aG bn ⟨#[115,111,117,114,99,101]⟩ 2 (aG bn ⟨#[112,108,97,110,116]⟩ 1 ([]:(List (ByteArray × Int))))))) [.str ⟨#[114,97,99,107]⟩] [cI 4] [] (aG bn ⟨#[114,97,99,107]⟩ 4 (aG bn ⟨#[108,105,110,107]⟩ 3 (aG bn ⟨#[115,111,117,114,99,101]⟩ 2 (aG bn ⟨#[112,108,97,110,116]⟩ 1 ([]:(List (ByteArray × Int))))))).length (kI cZ (aG bn ⟨#[114,97,99,107]⟩ 4 (aG bn ⟨#[108,105,110,107]⟩ 3 (aG bn ⟨#[115,111,117,114,99,101]⟩ 2 (aG bn ⟨#[112,108,97,110,116]⟩ 1 ([]:(List (ByteArray × Int)))))))) (kT (aN .i64) (aG bn ⟨#[114,97,99,107]⟩ 4 (aG bn ⟨#[108,105,110,107]⟩ 3 (aG bn ⟨#[115,111,117,114,99,101]⟩ 2 (aG bn ⟨#[112,108,97,110,116]⟩ 1 ([]:(List (ByteArray × Int)))))))),iN (fun _=>rfl) (fun _ _=>rfl) (aG bn ⟨#[108,105,110,107]⟩ 3 (aG bn ⟨#[115,111,117,114,99,101]⟩ 2 (aG bn ⟨#[112,108,97,110,116]⟩ 1 ([]:(List (ByteArray × Int)))))) ⟨#[114,97,99,107]⟩ 4 rfl rfl⟩]<| .en (aG bn ⟨#[114,97,99,107]⟩ 4 (aG bn ⟨#[108,105,110,107]⟩ 3 (aG bn ⟨#[115,111,117,114,99,101]⟩ 2 (aG bn ⟨#[112,108,97,110,116]⟩ 1 ([]:(List (ByteArray × Int))))))) [] [(1,0)])
theorem zk (u0:List (ByteArray × Int)) (w_:ByteArray):Ga Tryz.prog qU 124 [.one (.mp 0),sD (.str w_)] [(0,some (Me 9 65 false false 1 1 cZ (aN .i64) u0))] (fun r=>(vI r)) (fun r=>[(0,some (Me 9 65 false false 1 1 cZ (aN .i64) u0))]) (jv u0 w_):=
  Wi tT mX Tryz.func124 (
  .r<| .rg {an:=[(2, .look (bg bn w_ u0).isSome [cI ((bg bn w_ u0).getD 0)])]} [.pf ⟨jk [.s] 1 1 u0.length (kI cZ u0) (kT (aN .i64) u0) [.str w_] [.d (.int .i64 0)] (bg bn w_ u0).isSome [cI ((bg bn w_ u0).getD 0)],gZ (fun _=>rfl) (fun _ _=>rfl) u0 w_ 0 rfl rfl rfl⟩]<| .cp 1 (dO ((bg bn w_ u0).isSome)) (fun r_=>
  .r<| .r<| .e (some ((bg bn w_ u0).getD 0)))
  (.pn qU 1 [] [0] {} []<| .e none))
theorem uJ (u0:List (ByteArray × Int)) (w_:ByteArray):Ga Tryz.prog qU 125 [.one (.mp 0),sD (.str w_)] [(0,some (Me 9 68 false false 1 1 cZ (aN .i64) u0))] (fun r=>(vI r)) (fun r=>[(0,some (Me 9 68 false false 1 1 cZ (aN .i64) u0))]) (gJ u0 w_):=
  Wi tT mX Tryz.func125 (
  .r<| .rg {an:=[(2, .look (bg bn w_ u0).isSome [cI ((bg bn w_ u0).getD 0)])]} [.pf ⟨jk [.s] 1 1 u0.length (kI cZ u0) (kT (aN .i64) u0) [.str w_] [.d (.int .i64 0)] (bg bn w_ u0).isSome [cI ((bg bn w_ u0).getD 0)],gZ (fun _=>rfl) (fun _ _=>rfl) u0 w_ 0 rfl rfl rfl⟩]<| .cp 1 (dO ((bg bn w_ u0).isSome)) (fun r_=>
  .r<| .r<| .e (some ((bg bn w_ u0).getD 0)))
  (.pn qU 1 [] [0] {} []<| .e none))
section
variable (r_:List ByteArray) (v2:List (ByteArray × Int)) (u0:af) (u2:Int) (u3:Int) (u4:Int) (u5:Int) (u6:Int) (u7:Int) (u8:Int) (u9:Int) (v0:Int) (v1:Int) (x5:List au) (v5:Int) (v6:Int) (v7:Int) (v8:Int)
abbrev Ia:=((bg bn (at' r_ 0) v2).getD 0)
abbrev sS:=((0:Int)<=1/\1<(r_.length:Int))
abbrev Qt:=(u0.aa.length+[(⟨u2,u3,u4,u5,u6⟩:Source)].length)
abbrev uL:=((0:Int)<=2/\2<(r_.length:Int))
abbrev uK:=((0:Int)<=3/\3<(r_.length:Int))
abbrev vS:=((0:Int)<=4/\4<(r_.length:Int))
abbrev Db:=((0:Int)<=5/\5<(r_.length:Int))
abbrev Ow:=(aj Source.cell [(⟨u2,u3,u4,u5,u6⟩:Source)])
abbrev Ll:=(u0.aa++[(⟨u2,u3,u4,u5,u6⟩:Source)])
abbrev Uj:=(aj Source.cell (Ll u0 u2 u3 u4 u5 u6))
abbrev LZ:=(aj Source.cell u0.aa)
abbrev aaD:List (Nat × Option Ob):=[(33,some (.cells 73 [cI u7,cI u8,cI u9,cI v0,cI v1,.own 34 false x5.length])),(34,some (dz 70 2 au.cell x5))]
abbrev AQ:=(⟨(⟨v5,v6⟩:ah),v7,v8⟩:aD)
abbrev Oq:=(aj aD.cell [AQ v5 v6 v7 v8])
abbrev Md:=(u0.ac++[AQ v5 v6 v7 v8])
abbrev U6:=(aj aD.cell (Md u0 v5 v6 v7 v8))
end
theorem C8 (w0:Int) (s_:ByteArray) (u0:af):Ga Tryz.prog qU 94 [.one (.ptr 0 0),sI w0,sD (.str s_)] [(0,some (.cells 27 [cI u0.ag,.own 1 false u0.aa.length,.own 2 false u0.ae.length,.own 3 false u0.ac.length])),(1,some (dz 67 5 Source.cell u0.aa)),(2,some (dz 73 6 Link.cell u0.ae)),(3,some (dz 76 4 aD.cell u0.ac))] (fun r=>(vI r.1)) (fun r=>[(0,some (.cells 27 [cI r.2.ag,.own 4 false r.2.aa.length,.own 5 false r.2.ae.length,.own 6 false r.2.ac.length])),(1,none),(2,none),(3,none),(4,some (dz 67 5 Source.cell r.2.aa)),(5,some (dz 73 6 Link.cell r.2.ae)),(6,some (dz 76 4 aD.cell r.2.ac))]) (om w0 s_ u0):=
  Wi tT mX Tryz.func94 (
  .r<| .cl 1 (zq s_ ⟨#[32]⟩) fun r_=> .r<| .cl 0 (rQ [(0,23)] BU) fun v2=> .a1 ((0:Int)<=0/\0<(r_.length:Int))<| .rg {an:=[(4, .look (bg bn (at' r_ 0) v2).isSome [cI (Ia r_ v2)])]} [1,0, .pf ⟨jk [.s] 1 1 v2.length (kI cZ v2) (kT (aN .i64) v2) [.str (at' r_ 0)] [.d (.int .i64 0)] (bg bn (at' r_ 0) v2).isSome [cI (Ia r_ v2)],gZ (fun _=>rfl) (fun _ _=>rfl) v2 (at' r_ 0) 0 rfl rfl rfl⟩]<| .cp 13 (dO (bif (bif (bg bn (at' r_ 0) v2).isSome then(decide (w0<=(Ia r_ v2)))else false)then((decide (1<(Ia r_ v2)))==(decide (0<w0)))else false)) (fun w5=>
  .r<| .r<| .r<| .it (.cp 3 (dO (decide ((r_.length:Int)=2))) (fun w6=>
  .r<| .cp 4 (bA (at' r_ 1)) (fun w2=>
  .a1 (sS r_)<| .rg {} [0,1]<| .r<| .im (.re 0 1 1 24)<| .im (.re 0 2 2 25)<| .im (.re 0 3 3 26)<| .en (some (Ia r_ v2,(⟨w2,u0.aa,u0.ae,u0.ac⟩:af))) [] [(24,4),(25,5),(26,6)])
  (.a1 (sS r_)<| .pn qU 4 [] [0,1,2,3] {} [0,1]<| .e none))
  (.pn qU 3 [] [0,1,2,3] {} []<| .e none))
  (.r<| .it (.cp 3 (dO (decide ((r_.length:Int)=6))) (fun w7=>
  .r<| .cp 8 (bA (at' r_ 1)) (fun u2=>
  .cl 9 (rQ [(0,27)] rV) fun w3=> .cpr 13 (rkP [(0,27)] (zk w3 (at' r_ 2))) (fun u3=>
  .cp 17 (bA (at' r_ 3)) (fun u4=>
  .cp 21 (bA (at' r_ 4)) (fun u5=>
  .cp 25 (bA (at' r_ 5)) (fun u6=>
  .as _ inferInstance [(0:Int)<=1/\1<(r_.length:Int),(0:Int)<=2/\2<(r_.length:Int),(0:Int)<=3/\3<(r_.length:Int),(0:Int)<=4/\4<(r_.length:Int),(0:Int)<=5/\5<(r_.length:Int),(Qt u0 u2 u3 u4 u5 u6)*40<=140737488355328,u0.aa.length+[(⟨u2,u3,u4,u5,u6⟩:Source)].length<=4611686018427387904] (fun h=> ⟨h.1,h.2.1,h.2.2.1,h.2.2.2.1,h.2.2.2.2.1,h.2.2.2.2.2.1,h.2.2.2.2.2.2,trivial⟩:((sS r_)/\(uL r_)/\(uK r_)/\(vS r_)/\(Db r_)/\((Qt u0 u2 u3 u4 u5 u6)*40<=140737488355328)/\(u0.aa.length+[(⟨u2,u3,u4,u5,u6⟩:Source)].length<=4611686018427387904))->_)<| .rg {an:=[(27, .arr [(⟨u2,u3,u4,u5,u6⟩:Source)].length (Ow u2 u3 u4 u5 u6)),(28, .arr (Ll u0 u2 u3 u4 u5 u6).length (Uj u0 u2 u3 u4 u5 u6))],fr:=[(27,28),(28,29)]} [0,12,11,1,10,2,9,3,8,4,7, .pf ⟨[(⟨u2,u3,u4,u5,u6⟩:Source)].length=1,rfl⟩, .pf ⟨aB 1 5 (iV 5 [.int .i64 u2,.int .i64 u3,.int .i64 u4,.int .i64 u5,.int .i64 u6]) (Ow u2 u3 u4 u5 u6),(by intro i hi j hj;match i,j,hi,hj with|0,0,_,_=>rfl|0,1,_,_=>rfl|0,2,_,_=>rfl|0,3,_,_=>rfl|0,4,_,_=>rfl)⟩, .e (u0.aa.length),5,6, .pf ⟨(Ll u0 u2 u3 u4 u5 u6).length=u0.aa.length+[(⟨u2,u3,u4,u5,u6⟩:Source)].length,b_⟩, .pf ⟨aB (Qt u0 u2 u3 u4 u5 u6) 5 (jK (LZ u0) u0.aa.length (Ow u2 u3 u4 u5 u6)) (Uj u0 u2 u3 u4 u5 u6),bH _ _ _ _⟩]<| .r<| .im (.re 0 2 2 30)<| .im (.re 0 3 3 31)<| .en (some (Ia r_ v2,(⟨u0.ag,Ll u0 u2 u3 u4 u5 u6,u0.ae,u0.ac⟩:af))) [] [(29,4),(30,5),(31,6)])
  (.a5 (sS r_) (uL r_) (uK r_) (vS r_) (Db r_)<| .pn qU 25 [] [0,1,2,3] {} [0,10,9,1,8,2,7,3,6,4,5]<| .e none))
  (.a5 (sS r_) (uL r_) (uK r_) (vS r_) (Db r_)<| .pn qU 21 [] [0,1,2,3] {} [0,9,8,1,7,2,6,3,5,4]<| .e none))
  (.a5 (sS r_) (uL r_) (uK r_) (vS r_) (Db r_)<| .pn qU 17 [] [0,1,2,3] {} [0,8,7,1,6,2,5,3,4]<| .e none))
  (.a5 (sS r_) (uL r_) (uK r_) (vS r_) (Db r_)<| .pn qU 13 [] [0,1,2,3] {} [0,7,6,1,5,2,3,4]<| .e none))
  (.a5 (sS r_) (uL r_) (uK r_) (vS r_) (Db r_)<| .pn qU 8 [] [0,1,2,3] {} [0,5,1,2,3,4]<| .e none))
  (.pn qU 3 [] [0,1,2,3] {} []<| .e none))
  (.r<| .it (.cp 3 (dO (decide (6<=(r_.length:Int)))) (fun w8=>
  .r<| .cp 3 (bA (at' r_ 1)) (fun u7=>
  .cp 7 (bA (at' r_ 2)) (fun u8=>
  .cl 8 (rQ [(0,32)] wG) fun w4=> .cpr 12 (rkP [(0,32)] (uJ w4 (at' r_ 3))) (fun u9=>
  .cp 16 (bA (at' r_ 4)) (fun v0=>
  .cp 20 (bA (at' r_ 5)) (fun v1=>
  .a5 (sS r_) (uL r_) (uK r_) (vS r_) (Db r_)<| .rg {fr:=[(22,33)]} [0,10,1,9,8,2,7,3,6,4,5]<| .im (.nR 33 5 34 70 2 (aj au.cell ([]:List au)))<| .a1 ((0:Int)<=(6:Int)/\(6:Int)<=(r_.length:Int))<| .r<| .im (.us 120 (vD (.sl none 1 (r_.length - 6) (fun iq jq=>aj cZ r_ (iq+6) jq))) (vD (bR none 1 cZ (r_.drop 6))) (Ca.v (zw.one (qm.d (lQ.slN (by first|rw [b_,d8]|simp only [cH,d8,vY]|exact dt) (.inr rfl) (Mt _ _ _ _))))))<| .lp (σ:=((List au) × Int)) (β:=(List au)) (([]:List au),0) [] [] ⟨[0,8,10,120,121],[0,1,2,3],fun(x5,v9)=>[(122,vI v9)],fun(x5,v9)=>(aaD u7 u8 u9 v0 v1 x5)⟩ ⟨[0,8,10],[0,1,2,3],fun u1=>[],fun u1=>(aaD u7 u8 u9 v0 v1 u1)⟩
  (fun(x5,v9)=> .r<| .it (.a1 ((0:Int)<=v9/\v9<((r_.drop 6).length:Int))<| .r<| .cl 1 (rR (at' (r_.drop 6) v9.toNat) ⟨#[58]⟩) fun w1=> .r<| .cp 1 (dO w1.2.2) (fun w9=>
  .r<| .cp 3 (bA w1.1) (fun v3=>
  .cp 5 (bA w1.2.1) (fun v4=>
  .a2 ((x5.length+[(⟨v3,v4⟩:au)].length)*16<=140737488355328) (x5.length+[(⟨v3,v4⟩:au)].length<=4611686018427387904)<| .rg {an:=[(7, .arr [(⟨v3,v4⟩:au)].length (aj au.cell [(⟨v3,v4⟩:au)])),(8, .arr (x5++[(⟨v3,v4⟩:au)]).length (aj au.cell (x5++[(⟨v3,v4⟩:au)])))],fr:=[(7,41),(8,42)]} [3,2, .pf ⟨[(⟨v3,v4⟩:au)].length=1,rfl⟩, .pf ⟨aB 1 2 (iV 2 [.int .i64 v3,.int .i64 v4]) (aj au.cell [(⟨v3,v4⟩:au)]),(by intro i hi j hj;match i,j,hi,hj with|0,0,_,_=>rfl|0,1,_,_=>rfl)⟩, .e (x5.length),0,1, .pf ⟨(x5++[(⟨v3,v4⟩:au)]).length=x5.length+[(⟨v3,v4⟩:au)].length,b_⟩, .pf ⟨aB (x5.length+[(⟨v3,v4⟩:au)].length) 2 (jK (aj au.cell x5) x5.length (aj au.cell [(⟨v3,v4⟩:au)])) (aj au.cell (x5++[(⟨v3,v4⟩:au)])),bH _ _ _ _⟩]<| .r<| .en (.next (x5++[(⟨v3,v4⟩:au)],k8 v9)) [] [(42,34)])
  (.pn qU 5 [] [0,1,2,3] {} []<| .e (.done (.ret none))))
  (.pn qU 3 [] [0,1,2,3] {} []<| .e (.done (.ret none))))
  (.pn qU 1 [] [0,1,2,3] {} []<| .e (.done (.ret none))))
  (.e (.done (.brk x5))))
  (fun u1=> .fz [34]<| .a2 ((u0.ae.length+[(⟨u7,u8,u9,v0,v1,u1⟩:Link)].length)*64<=140737488355328) (u0.ae.length+[(⟨u7,u8,u9,v0,v1,u1⟩:Link)].length<=4611686018427387904)<| .rg {an:=[(6, .arr [(⟨u7,u8,u9,v0,v1,u1⟩:Link)].length (aj Link.cell [(⟨u7,u8,u9,v0,v1,u1⟩:Link)])),(7, .arr (u0.ae++[(⟨u7,u8,u9,v0,v1,u1⟩:Link)]).length (aj Link.cell (u0.ae++[(⟨u7,u8,u9,v0,v1,u1⟩:Link)])))],fr:=[(6,43),(7,44)]} [.pf ⟨[(⟨u7,u8,u9,v0,v1,u1⟩:Link)].length=1,rfl⟩, .pf ⟨aB 1 6 (iV 6 [.int .i64 u7,.int .i64 u8,.int .i64 u9,.int .i64 v0,.int .i64 v1,bR none 2 au.cell u1]) (aj Link.cell [(⟨u7,u8,u9,v0,v1,u1⟩:Link)]),(by intro i hi j hj;match i,j,hi,hj with|0,0,_,_=>rfl|0,1,_,_=>rfl|0,2,_,_=>rfl|0,3,_,_=>rfl|0,4,_,_=>rfl|0,5,_,_=>rfl)⟩, .e (u0.ae.length),0,1, .pf ⟨(u0.ae++[(⟨u7,u8,u9,v0,v1,u1⟩:Link)]).length=u0.ae.length+[(⟨u7,u8,u9,v0,v1,u1⟩:Link)].length,b_⟩, .pf ⟨aB (u0.ae.length+[(⟨u7,u8,u9,v0,v1,u1⟩:Link)].length) 6 (jK (aj Link.cell u0.ae) u0.ae.length (aj Link.cell [(⟨u7,u8,u9,v0,v1,u1⟩:Link)])) (aj Link.cell (u0.ae++[(⟨u7,u8,u9,v0,v1,u1⟩:Link)])),bH _ _ _ _⟩]<| .r<| .im (.re 0 1 1 45)<| .im (.re 0 3 3 46)<| .en (some (Ia r_ v2,(⟨u0.ag,u0.aa,u0.ae++[(⟨u7,u8,u9,v0,v1,u1⟩:Link)],u0.ac⟩:af))) [] [(45,4),(44,5),(46,6)]))
  (.a5 (sS r_) (uL r_) (uK r_) (vS r_) (Db r_)<| .pn qU 20 [] [0,1,2,3] {fr:=[(22,33)]} [0,10,1,9,8,2,7,3,6,4,5]<| .e none))
  (.a5 (sS r_) (uL r_) (uK r_) (vS r_) (Db r_)<| .pn qU 16 [] [0,1,2,3] {fr:=[(22,33)]} [0,9,1,8,7,2,6,3,5,4]<| .e none))
  (.a5 (sS r_) (uL r_) (uK r_) (vS r_) (Db r_)<| .pn qU 12 [] [0,1,2,3] {fr:=[(22,33)]} [0,8,1,7,6,2,5,3,4]<| .e none))
  (.a5 (sS r_) (uL r_) (uK r_) (vS r_) (Db r_)<| .pn qU 7 [] [0,1,2,3] {fr:=[(22,32)]} [0,6,1,5,2,3,4]<| .e none))
  (.a5 (sS r_) (uL r_) (uK r_) (vS r_) (Db r_)<| .pn qU 3 [] [0,1,2,3] {fr:=[(22,32)]} [0,5,1,2,3,4]<| .e none))
  (.pn qU 3 [] [0,1,2,3] {} []<| .e none))
  (.r<| .it (.cp 3 (dO (decide ((r_.length:Int)=5))) (fun x0=>
  .r<| .cp 8 (bA (at' r_ 1)) (fun v5=>
  .cp 12 (bA (at' r_ 2)) (fun v6=>
  .cp 17 (bA (at' r_ 3)) (fun v7=>
  .cp 21 (bA (at' r_ 4)) (fun v8=>
  .a6 (sS r_) (uL r_) (uK r_) (vS r_) ((u0.ac.length+[AQ v5 v6 v7 v8].length)*32<=140737488355328) (u0.ac.length+[AQ v5 v6 v7 v8].length<=4611686018427387904)<| .rg {an:=[(23, .arr [AQ v5 v6 v7 v8].length (Oq v5 v6 v7 v8)),(24, .arr (Md u0 v5 v6 v7 v8).length (U6 u0 v5 v6 v7 v8))],fr:=[(23,47),(24,48)]} [0,9,1,8,2,7,3,6, .pf ⟨[AQ v5 v6 v7 v8].length=1,rfl⟩, .pf ⟨aB 1 4 (iV 4 [.int .i64 v5,.int .i64 v6,.int .i64 v7,.int .i64 v8]) (Oq v5 v6 v7 v8),(by intro i hi j hj;match i,j,hi,hj with|0,0,_,_=>rfl|0,1,_,_=>rfl|0,2,_,_=>rfl|0,3,_,_=>rfl)⟩, .e (u0.ac.length),4,5, .pf ⟨(Md u0 v5 v6 v7 v8).length=u0.ac.length+[AQ v5 v6 v7 v8].length,b_⟩, .pf ⟨aB (u0.ac.length+[AQ v5 v6 v7 v8].length) 4 (jK (aj aD.cell u0.ac) u0.ac.length (Oq v5 v6 v7 v8)) (U6 u0 v5 v6 v7 v8),bH _ _ _ _⟩]<| .r<| .im (.re 0 1 1 49)<| .im (.re 0 2 2 50)<| .en (some (Ia r_ v2,(⟨u0.ag,u0.aa,u0.ae,Md u0 v5 v6 v7 v8⟩:af))) [] [(49,4),(50,5),(48,6)])
  (.a4 (sS r_) (uL r_) (uK r_) (vS r_)<| .pn qU 21 [] [0,1,2,3] {} [0,7,1,6,2,5,3,4]<| .e none))
  (.a4 (sS r_) (uL r_) (uK r_) (vS r_)<| .pn qU 17 [] [0,1,2,3] {} [0,6,1,5,2,4,3]<| .e none))
  (.a4 (sS r_) (uL r_) (uK r_) (vS r_)<| .pn qU 12 [] [0,1,2,3] {} [0,5,1,4,2,3]<| .e none))
  (.a4 (sS r_) (uL r_) (uK r_) (vS r_)<| .pn qU 8 [] [0,1,2,3] {} [0,4,1,2,3]<| .e none))
  (.pn qU 3 [] [0,1,2,3] {} []<| .e none))
  (.r<| .im (.re 0 1 1 51)<| .im (.re 0 2 2 52)<| .im (.re 0 3 3 53)<| .en (some (Ia r_ v2,u0)) [] [(51,4),(52,5),(53,6)])))))
  (.pn qU 13 [] [0,1,2,3] {} []<| .e none))
section
variable (o0:Int) (o1:List Source) (o2:List Link) (o3:List aD)
abbrev aay:List (Nat × Option Ob):=[(17,some (.cells 27 [cI o0,.own 54 false o1.length,.own 55 false o2.length,.own 56 false o3.length])),(19,none),(20,none),(21,none),(54,some (dz 67 5 Source.cell o1)),(55,some (dz 73 6 Link.cell o2)),(56,some (dz 76 4 aD.cell o3))]
end
theorem xg (u7:ByteArray):gK Tryz.prog 50 [sD (.str u7)] [] (fun r=>(.eB [.agg [cI r.1.ag,.own 0 false r.1.aa.length,.own 1 false r.1.ae.length,.own 2 false r.1.ac.length],sI r.2.1,sB r.2.2])) (fun r=>[(0,some (dz 67 5 Source.cell r.1.aa)),(1,some (dz 73 6 Link.cell r.1.ae)),(2,some (dz 76 4 aD.cell r.1.ac)),(3,none)]) (nD u7):=
  Zh tT mX Tryz.func50 (p:=dfG (jX Tryz.f50)) (pv:=qU) (β:=Unit) (γ:=(Int × (List Source) × (List Link) × (List aD) × Bool × Int)) (δ:=(Int × (List Source) × (List Link) × (List aD) × Int)) (
  .rg {fr:=[(0,22),(2,23)]} []<| .im (.nR 22 1 24 67 5 (aj Source.cell ([]:List Source)))<| .im (.nR 22 2 25 73 6 (aj Link.cell ([]:List Link)))<| .im (.nR 22 3 26 76 4 (aj aD.cell ([]:List aD)))<| .en () [] [(22,17),(23,18),(24,19),(25,20),(26,21)])
  ⟨[0],[],fun z_=>[(2,vP 17 0),(3,vI 0),(4,vP 18 0)],fun z_=>[(17,some (.cells 27 [cI 0,.own 19 false (([]:List Source).length),.own 20 false (([]:List Link).length),.own 21 false (([]:List aD).length)])),(18,some (.cells 4 [cB false])),(19,some (dz 67 5 Source.cell ([]:List Source))),(20,some (dz 73 6 Link.cell ([]:List Link))),(21,some (dz 76 4 aD.cell ([]:List aD)))]⟩ (fun z_=>
  .r<| .im (.re 17 1 19 63)<| .im (.re 17 2 20 64)<| .im (.re 17 3 21 65)<| .lp (σ:=(Int × (List Source) × (List Link) × (List aD) × ByteArray × Int × Int)) (β:=(Int × (List Source) × (List Link) × (List aD) × Int)) (0,([]:List Source),([]:List Link),([]:List aD),u7,0,0) [] [(63,54),(64,55),(65,56)] ⟨[2,4],[18],fun(o0,o1,o2,o3,u4,n,u5)=>[(0,vD (.str u4)),(3,vI n),(5,vI u5)],fun(o0,o1,o2,o3,u4,n,u5)=>(aay o0 o1 o2 o3)⟩ ⟨[2,4],[18],fun(u6,u0,u1,u2,n1)=>[(3,vI n1)],fun(u6,u0,u1,u2,n1)=>(aay u6 u0 u1 u2)⟩
  (fun(o0,o1,o2,o3,u4,n,u5)=> .r<| .it (.cl 1 (rR u4 ⟨#[10]⟩) fun r_=> .r<| .cp 1 (dO r_.2.2) (fun u8=>
  .r<| .cp 2 (rkP [(0,17),(1,54),(2,55),(3,56),(4,60),(5,61),(6,62)] (C8 u5 r_.1 (⟨o0,o1,o2,o3⟩:af))) (fun u3=>
  .r<| .r<| .r<| .en (.next (u3.2.ag,u3.2.aa,u3.2.ae,u3.2.ac,r_.2.1,k8 n,u3.1)) [] [(60,54),(61,55),(62,56)])
  (.pn qU 2 [2,3,4] [17,18,19,20,21,54,55,56] {} []<| .en (.done (.ret (.inr (o0,o1,o2,o3,n)))) [] [(54,36),(55,37),(56,38)]))
  (.pn qU 1 [2,3,4] [17,18,19,20,21,54,55,56] {} []<| .en (.done (.ret (.inr (o0,o1,o2,o3,n)))) [] [(54,36),(55,37),(56,38)]))
  (.e (.done (.brk (o0,o1,o2,o3,n)))))
  (fun(u6,u0,u1,u2,n1)=> .r<| .en (.inl (u6,u0,u1,u2,decide (0<n1),n1)) [] [(54,36),(55,37),(56,38)]))
  (fun z_=> ⟨[2,4],[],fun w_=>[(3,vI w_.2.2.2.2.2)],fun w_=>[(17,some (.cells 27 [cI w_.1,.own 36 false w_.2.1.length,.own 37 false w_.2.2.1.length,.own 38 false w_.2.2.2.1.length])),(18,some (.cells 4 [cB w_.2.2.2.2.1])),(19,none),(20,none),(21,none),(36,some (dz 67 5 Source.cell w_.2.1)),(37,some (dz 73 6 Link.cell w_.2.2.1)),(38,some (dz 76 4 aD.cell w_.2.2.2.1))]⟩) (fun z_=> ⟨[2,4],[18],fun x=>[(3,vI x.2.2.2.2)],fun x=>[(17,some (.cells 27 [cI x.1,.own 36 false x.2.1.length,.own 37 false x.2.2.1.length,.own 38 false x.2.2.2.1.length])),(19,none),(20,none),(21,none),(36,some (dz 67 5 Source.cell x.2.1)),(37,some (dz 73 6 Link.cell x.2.2.1)),(38,some (dz 76 4 aD.cell x.2.2.2.1))]⟩) (g:=92) (cargs:=(fun z_=>[.one (.ptr 18 0)])) (chin:=(fun z_ w_=>[(18,some (.cells 4 [cB w_.2.2.2.2.1]))])) (chd:=(fun z_ w_=>[(18,some (.cells 4 [cB w_.2.2.2.2.1]))])) (cpin:=(fun z_ x=>[(18,some (.cells 4 [cB false]))])) (cpd:=(fun z_ x=>[(18,some (.cells 4 [cB false]))]))
  (fun z_ w_=>Tc 18 _) (fun z_ x=>Td 18 _)
  (fun z_ w_=>
  .en ((⟨w_.1,w_.2.1,w_.2.2.1,w_.2.2.2.1⟩:af),w_.2.2.2.2.2,w_.2.2.2.2.1) [18] [(36,0),(37,1),(38,2),(17,3)]) (fun z_ x=>
  .en ((⟨x.1,x.2.1,x.2.2.1,x.2.2.2.1⟩:af),x.2.2.2.2,false) [18] [(36,0),(37,1),(38,2),(17,3)])
  (by kernel_rfl) (by kernel_rfl) (by kernel_rfl) (by kernel_rfl) (fun _=>by kernel_rfl) (fun _ _=> ⟨by kernel_rfl,by kernel_rfl,trivial⟩) (fun _ _=> ⟨by kernel_rfl,by kernel_rfl,trivial⟩) (fun _ _=>by kernel_rfl) (fun _ _=>by kernel_rfl) (by kernel_rfl)
section
variable (u0:List ByteArray) (s_:ByteArray) (i:Int)
abbrev QL:=(IntKind.wrap .i64 ((u0.length:Int) - 1))
abbrev Vn:=((QL u0).toNat)
abbrev Y5:=(aA (at' u0 (Vn u0)) (bD s_ i.toNat (LD i)))
abbrev Xk:=(u0.set (Vn u0) (Y5 u0 s_ i))
abbrev aax:=(aj cZ (Xk u0 s_ i))
end
theorem BX (s_:ByteArray):gK Tryz.prog 95 [sD (.str s_)] [] (fun r=>(vD (bR none 1 cZ r))) (fun _=>[]) (nE s_):=
  iU tT mX Tryz.func95 (
  .r<| .rg {an:=[(0, .arr [(⟨#[]⟩:ByteArray)].length (aj cZ [(⟨#[]⟩:ByteArray)]))],fr:=[(0,9)]} [.pf ⟨[(⟨#[]⟩:ByteArray)].length=1,rfl⟩, .pf ⟨aB 1 1 (iV 1 [.str ⟨#[]⟩]) (aj cZ [(⟨#[]⟩:ByteArray)]),(by intro i hi j hj;match i,j,hi,hj with|0,0,_,_=>rfl)⟩]<| .r<| .lp (σ:=((List ByteArray) × Int)) (β:=(List ByteArray)) ([(⟨#[]⟩:ByteArray)],0) [] [] ⟨[0],[],fun(u0,i)=>[(3,vO 9 false u0.length),(4,vI i)],fun(u0,i)=>[(9,some (dz 9 1 cZ u0))]⟩ ⟨[],[],fun u1=>[(3,vO 9 false u1.length)],fun u1=>[(9,some (dz 9 1 cZ u1))]⟩
  (fun(u0,i)=> .r<| .it (.a1 ((0:Int)<=i/\i<((s_.size:Nat):Int))<| .r<| .it (.a2 ((u0.length+[(⟨#[]⟩:ByteArray)].length)*16<=140737488355328) (u0.length+[(⟨#[]⟩:ByteArray)].length<=4611686018427387904)<| .rg {an:=[(1, .arr [(⟨#[]⟩:ByteArray)].length (aj cZ [(⟨#[]⟩:ByteArray)])),(2, .arr (u0++[(⟨#[]⟩:ByteArray)]).length (aj cZ (u0++[(⟨#[]⟩:ByteArray)])))],fr:=[(1,16),(2,17)]} [.pf ⟨[(⟨#[]⟩:ByteArray)].length=1,rfl⟩, .pf ⟨aB 1 1 (iV 1 [.str ⟨#[]⟩]) (aj cZ [(⟨#[]⟩:ByteArray)]),(by intro i hi j hj;match i,j,hi,hj with|0,0,_,_=>rfl)⟩, .e (u0.length),0,1, .pf ⟨(u0++[(⟨#[]⟩:ByteArray)]).length=u0.length+[(⟨#[]⟩:ByteArray)].length,b_⟩, .pf ⟨aB (u0.length+[(⟨#[]⟩:ByteArray)].length) 1 (jK (aj cZ u0) u0.length (aj cZ [(⟨#[]⟩:ByteArray)])) (aj cZ (u0++[(⟨#[]⟩:ByteArray)])),bH _ _ _ _⟩]<| .r<| .en (.next (u0++[(⟨#[]⟩:ByteArray)],k8 i)) [] [(17,9)])
  (.a3 ((0:Int)<=(QL u0)/\(QL u0)<(u0.length:Int)) ((0:Int)<=i/\i<=(k8 i)/\(k8 i)<=((s_.size:Nat):Int)) ((at' u0 (Vn u0)).size+(bD s_ i.toNat (LD i)).size<=9223372036854775807)<| .rg {an:=[(17, .arr 0 (aax u0 s_ i))]} [0, .t 0 (QL u0) u0.length,1,2,0, .t 0 (QL u0) u0.length, .pf ⟨aB u0.length 1 (bW (aj cZ u0) (Vn u0) 0 [.str (Y5 u0 s_ i)]) (aax u0 s_ i),aK _ _ _ _ _ _ _ _ rfl (fun j hj=>(match j,hj with|0,_=>rfl))⟩]<| .im (.ll 9 u0 (Xk u0 s_ i))<| .r<| .e (.next (Xk u0 s_ i,k8 i))))
  (.e (.done (.brk u0))))
  (fun u1=> .rg {fz:=[9]} []<| .e u1))
section
variable (i:Int) (l:List ByteArray)
abbrev Oa:=((0:Int)<=i/\i<(l.length:Int))
end
theorem mP (l:List ByteArray) (w_:ByteArray):gK Tryz.prog 96 [sD (bR none 1 cZ l),sD (.str w_)] [] (fun r=>(vI r)) (fun _=>[]) (fO l w_):=
  iU tT mX Tryz.func96 (
  .r<| .r<| .lp (σ:=Int) (β:=Unit) (1) [] [] ⟨[0,1],[],fun i=>[(5,vI i)],fun i=>[]⟩ ⟨[],[],fun _=>[],fun _=>[]⟩
  (fun i=> .r<| .it (.a1 (Oa i l)<| .r<| .it (.r<| .e (.done (.ret i)))
  (.r<| .e (.next (k8 i))))
  (.e (.done (.brk ()))))
  (fun _=> .r<| .e 0))
theorem mh (s_:ByteArray):gK Tryz.prog 97 [sD (.str s_)] [] (fun r=>(.eB [sI r.1,sB r.2])) (fun _=>[]) (iM s_):=
  iU tT mX Tryz.func97 (
  .r<| .r<| .a1 ((gB [(decide (0<((s_.size:Nat):Int)),true)]=true->(0:Int)<=(0:Int)/\(0:Int)<((s_.size:Nat):Int)))<| .r<| .it (.a1 ((0:Int)<=(1:Int)/\(1:Int)<=((s_.size:Nat):Int))<| .r<| .r<| .it (.r<| .e (0,false))
  (.r<| .r<| .lp (σ:=(Int × Int)) (β:=Int) (0,0) [] [] ⟨[0,4],[],fun(n,i)=>[(5,vI n),(6,vI i)],fun(n,i)=>[]⟩ ⟨[0,4],[],fun n1=>[(5,vI n1)],fun n1=>[]⟩
  (fun(n,i)=> .r<| .it (.a2 ((0:Int)<=i/\i<(((bD s_ 1 s_.size).size:Nat):Int)) ((gB [(decide ((at' (dH (bD s_ 1 s_.size)) i.toNat)<48),false)]=true->(0:Int)<=i/\i<(((bD s_ 1 s_.size).size:Nat):Int)))<| .rg {} [0,1]<| .it (.r<| .e (.done (.ret (0,false))))
  (.a1 ((0:Int)<=i/\i<(((bD s_ 1 s_.size).size:Nat):Int))<| .r<| .r<| .e (.next (IntKind.wrap .i64 ((IntKind.wrap .i64 ((IntKind.wrap .i64 ((10:Int)*n))+(IntKind.wrap .i64 (at' (dH (bD s_ 1 s_.size)) i.toNat)))) - 48),k8 i))))
  (.e (.done (.brk n))))
  (fun n1=> .r<| .it (.r<| .cl 2 (aQ (IntKind.wrap .i64 (0 - n1))) fun r_=> .r<| .e (IntKind.wrap .i64 (0 - n1),(r_:ByteArray).toList==(s_:ByteArray).toList))
  (.cl 2 (aQ n1) fun u0=> .r<| .e (n1,(u0:ByteArray).toList==(s_:ByteArray).toList)))))
  (.r<| .it (.r<| .e (0,false))
  (.r<| .r<| .lp (σ:=(Int × Int)) (β:=Int) (0,0) [] [] ⟨[0,4],[],fun(n2,i1)=>[(5,vI n2),(6,vI i1)],fun(n2,i1)=>[]⟩ ⟨[0,4],[],fun n3=>[(5,vI n3)],fun n3=>[]⟩
  (fun(n2,i1)=> .r<| .it (.a2 ((0:Int)<=i1/\i1<((s_.size:Nat):Int)) ((gB [(decide ((at' (dH s_) i1.toNat)<48),false)]=true->(0:Int)<=i1/\i1<((s_.size:Nat):Int)))<| .rg {} [0,1]<| .it (.r<| .e (.done (.ret (0,false))))
  (.a1 ((0:Int)<=i1/\i1<((s_.size:Nat):Int))<| .r<| .r<| .e (.next (IntKind.wrap .i64 ((IntKind.wrap .i64 ((IntKind.wrap .i64 ((10:Int)*n2))+(IntKind.wrap .i64 (at' (dH s_) i1.toNat)))) - 48),k8 i1))))
  (.e (.done (.brk n2))))
  (fun n3=> .r<| .it (.r<| .cl 2 (aQ (IntKind.wrap .i64 (0 - n3))) fun u1=> .r<| .e (IntKind.wrap .i64 (0 - n3),(u1:ByteArray).toList==(s_:ByteArray).toList))
  (.cl 2 (aQ n3) fun u2=> .r<| .e (n3,(u2:ByteArray).toList==(s_:ByteArray).toList))))))
theorem BK (l:List ByteArray):gK Tryz.prog 98 [sD (bR none 1 cZ l)] [] (fun r=>(.eB [sD (bR none 2 au.cell r.1),sB r.2])) (fun _=>[]) (nC l):=
  iU tT mX Tryz.func98 (
  .r<| .r<| .r<| .im (.ad 4 16 70 2 (aj au.cell ([]:List au)))<| .lp (σ:=((List au) × Int)) (β:=(List au)) (([]:List au),0) [] [(16,9)] ⟨[0],[],fun(u0,i)=>[(4,vO 9 false u0.length),(5,vI i)],fun(u0,i)=>[(9,some (dz 70 2 au.cell u0))]⟩ ⟨[],[],fun u3=>[(4,vO 9 false u3.length)],fun u3=>[(9,some (dz 70 2 au.cell u3))]⟩
  (fun(u0,i)=> .r<| .it (.r<| .r<| .lp (σ:=(Int × Int)) (β:=Int) (-1,0) [] [] ⟨[0,4,5],[9],fun(u4,kz)=>[(6,vI u4),(7,vI kz)],fun(u4,kz)=>[]⟩ ⟨[0,4,5],[9],fun u2=>[(6,vI u2)],fun u2=>[]⟩
  (fun(u4,kz)=> .a1 (Oa i l)<| .r<| .it (.a2 (Oa i l) ((0:Int)<=kz/\kz<(((at' l i.toNat).size:Nat):Int))<| .rg {} [0,1]<| .it (.r<| .r<| .e (.next (kz,k8 kz)))
  (.r<| .e (.next (u4,k8 kz))))
  (.e (.done (.brk u4))))
  (fun u2=> .r<| .it (.r<| .e (.done (.ret (([]:List au),false))))
  (.cl 6 (mh (bD (at' l i.toNat) 0 u2.toNat)) fun r_=> .a2 (Oa i l) ((0:Int)<=u2/\u2<=(((at' l i.toNat).size:Nat):Int))<| .rg {} [0,1,2]<| .cl 7 (mh (bD (at' l i.toNat) (LD u2) (at' l i.toNat).size)) fun u1=> .a2 (Oa i l) ((0:Int)<=(k8 u2)/\(k8 u2)<=(((at' l i.toNat).size:Nat):Int))<| .rg {} [0,1,2]<| .r<| .it (.r<| .e (.done (.ret (([]:List au),false))))
  (.a2 ((u0.length+[(⟨r_.1,u1.1⟩:au)].length)*16<=140737488355328) (u0.length+[(⟨r_.1,u1.1⟩:au)].length<=4611686018427387904)<| .rg {an:=[(4, .arr [(⟨r_.1,u1.1⟩:au)].length (aj au.cell [(⟨r_.1,u1.1⟩:au)])),(5, .arr (u0++[(⟨r_.1,u1.1⟩:au)]).length (aj au.cell (u0++[(⟨r_.1,u1.1⟩:au)])))],fr:=[(4,14),(5,15)]} [.pf ⟨[(⟨r_.1,u1.1⟩:au)].length=1,rfl⟩, .pf ⟨aB 1 2 (iV 2 [.int .i64 r_.1,.int .i64 u1.1]) (aj au.cell [(⟨r_.1,u1.1⟩:au)]),(by intro i hi j hj;match i,j,hi,hj with|0,0,_,_=>rfl|0,1,_,_=>rfl)⟩, .e (u0.length),0,1, .pf ⟨(u0++[(⟨r_.1,u1.1⟩:au)]).length=u0.length+[(⟨r_.1,u1.1⟩:au)].length,b_⟩, .pf ⟨aB (u0.length+[(⟨r_.1,u1.1⟩:au)].length) 2 (jK (aj au.cell u0) u0.length (aj au.cell [(⟨r_.1,u1.1⟩:au)])) (aj au.cell (u0++[(⟨r_.1,u1.1⟩:au)])),bH _ _ _ _⟩]<| .r<| .en (.next (u0++[(⟨r_.1,u1.1⟩:au)],k8 i)) [] [(15,9)]))))
  (.e (.done (.brk u0))))
  (fun u3=> .rg {fz:=[9]} []<| .e (u3,true)))
abbrev aak:List (Nat × Option Ob):=[(21,some (dz 9 1 cZ [(⟨#[]⟩:ByteArray),⟨#[112,108,97,110,116]⟩,⟨#[115,111,117,114,99,101]⟩,⟨#[108,105,110,107]⟩,⟨#[114,97,99,107]⟩]))]
theorem yh (p:af) (v0:Int) (s_:ByteArray):gK Tryz.prog 51 [.agg [cI p.ag,.own 0 false p.aa.length,.own 1 false p.ae.length,.own 2 false p.ac.length],sI v0,sD (.str s_)] [(0,some (dz 67 5 Source.cell p.aa)),(1,some (dz 73 6 Link.cell p.ae)),(2,some (dz 76 4 aD.cell p.ac))] (fun r=>(.eB [.agg [cI r.1.ag,.own 3 false r.1.aa.length,.own 4 false r.1.ae.length,.own 5 false r.1.ac.length],sI r.2])) (fun r=>[(0,none),(1,none),(2,none),(3,some (dz 67 5 Source.cell r.1.aa)),(4,some (dz 73 6 Link.cell r.1.ae)),(5,some (dz 76 4 aD.cell r.1.ac)),(6,none)]) (gY p v0 s_):=
  iU tT mX Tryz.func51 (
  .rg {fr:=[(0,16),(1,17)]} []<| .im (.nR 17 1 18 67 5 (aj Source.cell ([]:List Source)))<| .im (.nR 17 2 19 73 6 (aj Link.cell ([]:List Link)))<| .im (.nR 17 3 20 76 4 (aj aD.cell ([]:List aD)))<| .cl 1 (BX s_) fun r_=> .r<| .cr 4 ⟨fun{u7} hr_1=>((Fn.JE (frz:=[21]) (p:=[[(⟨#[]⟩:ByteArray),⟨#[112,108,97,110,116]⟩,⟨#[115,111,117,114,99,101]⟩,⟨#[108,105,110,107]⟩,⟨#[114,97,99,107]⟩].length=[(⟨#[]⟩:ByteArray),⟨#[112,108,97,110,116]⟩,⟨#[115,111,117,114,99,101]⟩,⟨#[108,105,110,107]⟩,⟨#[114,97,99,107]⟩].length]) (Fn.le (args':=[sD (bR (some true) 1 cZ [(⟨#[]⟩:ByteArray),⟨#[112,108,97,110,116]⟩,⟨#[115,111,117,114,99,101]⟩,⟨#[108,105,110,107]⟩,⟨#[114,97,99,107]⟩]),sD (.str (at' r_ 0))]) (mP [(⟨#[]⟩:ByteArray),⟨#[112,108,97,110,116]⟩,⟨#[115,111,117,114,99,101]⟩,⟨#[108,105,110,107]⟩,⟨#[114,97,99,107]⟩] (at' r_ 0) hr_1) (by exact⟨zw.one (qm.d lQ.qQ),zw.refl _,trivial⟩)) (by kernel_rfl) ⟨rfl,trivial⟩ rfl):Fn Tryz.prog 96 [.one (.own 21 true ([(⟨#[]⟩:ByteArray),⟨#[112,108,97,110,116]⟩,⟨#[115,111,117,114,99,101]⟩,⟨#[108,105,110,107]⟩,⟨#[114,97,99,107]⟩].length)),sD (.str (at' r_ 0))] aak (vI u7) aak)⟩ fun u7=> .a1 ((0:Int)<=0/\0<(r_.length:Int))<| .rg {an:=[(0, .arr [(⟨#[]⟩:ByteArray),⟨#[112,108,97,110,116]⟩,⟨#[115,111,117,114,99,101]⟩,⟨#[108,105,110,107]⟩,⟨#[114,97,99,107]⟩].length (aj cZ [(⟨#[]⟩:ByteArray),⟨#[112,108,97,110,116]⟩,⟨#[115,111,117,114,99,101]⟩,⟨#[108,105,110,107]⟩,⟨#[114,97,99,107]⟩]))],fr:=[(0,21)]} [.pf ⟨[(⟨#[]⟩:ByteArray),⟨#[112,108,97,110,116]⟩,⟨#[115,111,117,114,99,101]⟩,⟨#[108,105,110,107]⟩,⟨#[114,97,99,107]⟩].length=5,rfl⟩, .pf ⟨aB 5 1 (iV 1 [.str ⟨#[]⟩,.str ⟨#[112,108,97,110,116]⟩,.str ⟨#[115,111,117,114,99,101]⟩,.str ⟨#[108,105,110,107]⟩,.str ⟨#[114,97,99,107]⟩]) (aj cZ [(⟨#[]⟩:ByteArray),⟨#[112,108,97,110,116]⟩,⟨#[115,111,117,114,99,101]⟩,⟨#[108,105,110,107]⟩,⟨#[114,97,99,107]⟩]),(by intro i hi j hj;match i,j,hi,hj with|0,0,_,_=>rfl|1,0,_,_=>rfl|2,0,_,_=>rfl|3,0,_,_=>rfl|4,0,_,_=>rfl)⟩,0,1]<| .r<| .it (.r<| .im (.re 17 1 0 22)<| .im (.re 17 2 1 23)<| .im (.re 17 3 2 24)<| .en (p,0) [] [(22,3),(23,4),(24,5),(17,6)])
  (.rg {fr:=[(0,25)]} []<| .r<| .lp (σ:=(Int × Int × Int × Int × Int × Int × Int)) (β:=(Int × Int × Int × Int × Int × Int)) (0,0,0,0,0,0,1) [] [] ⟨[3,6,8,9,10],[0,1,2,16,17,18,19,20],fun(n0,u6,n2,n3,n4,n5,i1)=>[(11,vI i1)],fun(n0,u6,n2,n3,n4,n5,i1)=>[(25,some (.cells 174 [cI n0,cI u6,cI n2,cI n3,cI n4,cI n5,cI 0]))]⟩ ⟨[3,6,8,9,10],[0,1,2,16,17,18,19,20],fun(u9,u0,u1,u2,u3,u4)=>[],fun(u9,u0,u1,u2,u3,u4)=>[(25,some (.cells 174 [cI u9,cI u0,cI u1,cI u2,cI u3,cI u4,cI 0]))]⟩
  (fun(n0,u6,n2,n3,n4,n5,i1)=> .r<| .it (.r<| .it (.a1 (i1=2)<| .sj 11 i1 2 0<| .cl 1 mo fun v1=> .cl 6 (mP v1 (at' r_ 2)) fun v2=> .a1 (uL r_)<| .rg {} [2,0,1, .pf ⟨(0:Int)<=2/\(2:Int)<(7:Nat),(by decide)⟩]<| .rg {} [.pf ⟨(0:Int)<=2/\(2:Int)<(7:Nat),(by decide)⟩]<| .it (.r<| .im (.re 17 1 0 26)<| .im (.re 17 2 1 27)<| .im (.re 17 3 2 28)<| .en (.done (.ret (p,0))) [] [(26,3),(27,4),(28,5),(17,6)])
  (.r<| .e (.next (n0,u6,v2,n3,n4,n5,3))))
  (.r<| .it (.a1 (i1=3)<| .sj 11 i1 3 0<| .cl 1 nO fun v3=> .cl 6 (mP v3 (at' r_ 3)) fun v4=> .a1 (uK r_)<| .rg {} [2,0,1, .pf ⟨(0:Int)<=3/\(3:Int)<(7:Nat),(by decide)⟩]<| .rg {} [.pf ⟨(0:Int)<=3/\(3:Int)<(7:Nat),(by decide)⟩]<| .it (.r<| .im (.re 17 1 0 29)<| .im (.re 17 2 1 30)<| .im (.re 17 3 2 31)<| .en (.done (.ret (p,0))) [] [(29,3),(30,4),(31,5),(17,6)])
  (.r<| .e (.next (n0,u6,n2,v4,n4,n5,4))))
  (.cl 4 (mh (at' r_ i1.toNat)) fun u8=> .a1 (Oa i1 r_)<| .rg {} [0,1]<| .r<| .it (.r<| .im (.re 17 1 0 32)<| .im (.re 17 2 1 33)<| .im (.re 17 3 2 34)<| .en (.done (.ret (p,0))) [] [(32,3),(33,4),(34,5),(17,6)])
  (.fk (decide (i1=0)) (.si 11 i1 0 0<| .rg {} [.pf ⟨(0:Int)<=0/\(0:Int)<(7:Nat),(by decide)⟩]<| .r<| .e (.next (u8.1,u6,n2,n3,n4,n5,1)))
  (.fk (decide (i1=1)) (.si 11 i1 1 0<| .rg {} [.pf ⟨(0:Int)<=1/\(1:Int)<(7:Nat),(by decide)⟩]<| .r<| .e (.next (n0,u8.1,n2,n3,n4,n5,2)))
  (.fk (decide (i1=2)) (.si 11 i1 2 0<| .rg {} [.pf ⟨(0:Int)<=2/\(2:Int)<(7:Nat),(by decide)⟩]<| .r<| .e (.next (n0,u6,u8.1,n3,n4,n5,3)))
  (.fk (decide (i1=3)) (.si 11 i1 3 0<| .rg {} [.pf ⟨(0:Int)<=3/\(3:Int)<(7:Nat),(by decide)⟩]<| .r<| .e (.next (n0,u6,n2,u8.1,n4,n5,4)))
  (.fk (decide (i1=4)) (.si 11 i1 4 0<| .rg {} [.pf ⟨(0:Int)<=4/\(4:Int)<(7:Nat),(by decide)⟩]<| .r<| .e (.next (n0,u6,n2,n3,u8.1,n5,5)))
  (.a1 (i1=5)<| .sj 11 i1 5 0<| .rg {} [.pf ⟨(0:Int)<=5/\(5:Int)<(7:Nat),(by decide)⟩]<| .r<| .e (.next (n0,u6,n2,n3,n4,u8.1,6)))))))))))
  (.e (.done (.brk (n0,u6,n2,n3,n4,n5)))))
  (fun(u9,u0,u1,u2,u3,u4)=> .r<| .r<| .it (.r<| .it (.r<| .im (.re 17 1 0 35)<| .im (.re 17 2 1 36)<| .im (.re 17 3 2 37)<| .en (p,0) [] [(35,3),(36,4),(37,5),(17,6)])
  (.rg {} [.pf ⟨(0:Int)<=1/\(1:Int)<(7:Nat),(by decide)⟩]<| .r<| .im (.re 17 1 0 38)<| .im (.re 17 2 1 39)<| .im (.re 17 3 2 40)<| .en ((⟨u0,p.aa,p.ae,p.ac⟩:af),u7) [] [(38,3),(39,4),(40,5),(17,6)]))
  (.rg {fz:=[25]} []<| .it (.r<| .it (.r<| .im (.re 17 1 0 41)<| .im (.re 17 2 1 42)<| .im (.re 17 3 2 43)<| .en (p,0) [] [(41,3),(42,4),(43,5),(17,6)])
  (.a2 ((Qt p u0 u1 u2 u3 u4)*40<=140737488355328) (p.aa.length+[(⟨u0,u1,u2,u3,u4⟩:Source)].length<=4611686018427387904)<| .rg {an:=[(13, .arr [(⟨u0,u1,u2,u3,u4⟩:Source)].length (Ow u0 u1 u2 u3 u4)),(14, .arr (Ll p u0 u1 u2 u3 u4).length (Uj p u0 u1 u2 u3 u4))],fr:=[(13,44),(14,45)]} [.pf ⟨(0:Int)<=1/\(1:Int)<(7:Nat),(by decide)⟩, .pf ⟨(0:Int)<=2/\(2:Int)<(7:Nat),(by decide)⟩, .pf ⟨(0:Int)<=3/\(3:Int)<(7:Nat),(by decide)⟩, .pf ⟨(0:Int)<=4/\(4:Int)<(7:Nat),(by decide)⟩, .pf ⟨(0:Int)<=5/\(5:Int)<(7:Nat),(by decide)⟩, .pf ⟨[(⟨u0,u1,u2,u3,u4⟩:Source)].length=1,rfl⟩, .pf ⟨aB 1 5 (iV 5 [.int .i64 u0,.int .i64 u1,.int .i64 u2,.int .i64 u3,.int .i64 u4]) (Ow u0 u1 u2 u3 u4),(by intro i hi j hj;match i,j,hi,hj with|0,0,_,_=>rfl|0,1,_,_=>rfl|0,2,_,_=>rfl|0,3,_,_=>rfl|0,4,_,_=>rfl)⟩, .e (p.aa.length),0,1, .pf ⟨(Ll p u0 u1 u2 u3 u4).length=p.aa.length+[(⟨u0,u1,u2,u3,u4⟩:Source)].length,b_⟩, .pf ⟨aB (Qt p u0 u1 u2 u3 u4) 5 (jK (LZ p) p.aa.length (Ow u0 u1 u2 u3 u4)) (Uj p u0 u1 u2 u3 u4),bH _ _ _ _⟩]<| .r<| .im (.re 17 2 1 46)<| .im (.re 17 3 2 47)<| .en ((⟨p.ag,Ll p u0 u1 u2 u3 u4,p.ae,p.ac⟩:af),u7) [] [(45,3),(46,4),(47,5),(17,6)]))
  (.r<| .it (.r<| .it (.r<| .im (.re 17 1 0 48)<| .im (.re 17 2 1 49)<| .im (.re 17 3 2 50)<| .en (p,0) [] [(48,3),(49,4),(50,5),(17,6)])
  (.cl 2 ⟨fun{u5} hr_11=>((Fn.leH (args:=[sD (bR none 1 cZ (r_.drop 6))]) (args':=[sD (.sl none 1 (r_.length - 6) (fun iq jq=>aj cZ r_ (iq+6) jq))]) (hin:=[]) (hin':=[]) (BK (r_.drop 6) hr_11) ⟨zw.one (qm.d (lQ.slN (by first|rw [b_,d8]|simp only [cH,d8,vY]|exact dt) (.inr rfl) (Mt _ _ _ _))),trivial⟩ trivial):Fn Tryz.prog 98 [sD (.sl none 1 (r_.length - 6) (fun iq jq=>aj cZ r_ (iq+6) jq))] [] (.eB [sD (bR none 2 au.cell u5.1),sB u5.2]) [])⟩ fun u5=> .a1 ((0:Int)<=(6:Int)/\(6:Int)<=(r_.length:Int))<| .rg {} [0,1]<| .r<| .it (.r<| .im (.re 17 1 0 51)<| .im (.re 17 2 1 52)<| .im (.re 17 3 2 53)<| .en (p,0) [] [(51,3),(52,4),(53,5),(17,6)])
  (.a2 ((p.ae.length+[(⟨u0,u1,u2,u3,u4,u5.1⟩:Link)].length)*64<=140737488355328) (p.ae.length+[(⟨u0,u1,u2,u3,u4,u5.1⟩:Link)].length<=4611686018427387904)<| .rg {an:=[(14, .arr [(⟨u0,u1,u2,u3,u4,u5.1⟩:Link)].length (aj Link.cell [(⟨u0,u1,u2,u3,u4,u5.1⟩:Link)])),(15, .arr (p.ae++[(⟨u0,u1,u2,u3,u4,u5.1⟩:Link)]).length (aj Link.cell (p.ae++[(⟨u0,u1,u2,u3,u4,u5.1⟩:Link)])))],fr:=[(14,54),(15,55)]} [.pf ⟨(0:Int)<=1/\(1:Int)<(7:Nat),(by decide)⟩, .pf ⟨(0:Int)<=2/\(2:Int)<(7:Nat),(by decide)⟩, .pf ⟨(0:Int)<=3/\(3:Int)<(7:Nat),(by decide)⟩, .pf ⟨(0:Int)<=4/\(4:Int)<(7:Nat),(by decide)⟩, .pf ⟨(0:Int)<=5/\(5:Int)<(7:Nat),(by decide)⟩, .pf ⟨[(⟨u0,u1,u2,u3,u4,u5.1⟩:Link)].length=1,rfl⟩, .pf ⟨aB 1 6 (iV 6 [.int .i64 u0,.int .i64 u1,.int .i64 u2,.int .i64 u3,.int .i64 u4,bR none 2 au.cell u5.1]) (aj Link.cell [(⟨u0,u1,u2,u3,u4,u5.1⟩:Link)]),(by intro i hi j hj;match i,j,hi,hj with|0,0,_,_=>rfl|0,1,_,_=>rfl|0,2,_,_=>rfl|0,3,_,_=>rfl|0,4,_,_=>rfl|0,5,_,_=>rfl)⟩, .e (p.ae.length),0,1, .pf ⟨(p.ae++[(⟨u0,u1,u2,u3,u4,u5.1⟩:Link)]).length=p.ae.length+[(⟨u0,u1,u2,u3,u4,u5.1⟩:Link)].length,b_⟩, .pf ⟨aB (p.ae.length+[(⟨u0,u1,u2,u3,u4,u5.1⟩:Link)].length) 6 (jK (aj Link.cell p.ae) p.ae.length (aj Link.cell [(⟨u0,u1,u2,u3,u4,u5.1⟩:Link)])) (aj Link.cell (p.ae++[(⟨u0,u1,u2,u3,u4,u5.1⟩:Link)])),bH _ _ _ _⟩]<| .r<| .im (.re 17 1 0 56)<| .im (.re 17 3 2 57)<| .en ((⟨p.ag,p.aa,p.ae++[(⟨u0,u1,u2,u3,u4,u5.1⟩:Link)],p.ac⟩:af),u7) [] [(56,3),(55,4),(57,5),(17,6)])))
  (.r<| .it (.r<| .it (.r<| .im (.re 17 1 0 58)<| .im (.re 17 2 1 59)<| .im (.re 17 3 2 60)<| .en (p,0) [] [(58,3),(59,4),(60,5),(17,6)])
  (.a2 ((p.ac.length+[AQ u0 u1 u2 u3].length)*32<=140737488355328) (p.ac.length+[AQ u0 u1 u2 u3].length<=4611686018427387904)<| .rg {an:=[(12, .arr [AQ u0 u1 u2 u3].length (Oq u0 u1 u2 u3)),(13, .arr (Md p u0 u1 u2 u3).length (U6 p u0 u1 u2 u3))],fr:=[(12,61),(13,62)]} [.pf ⟨(0:Int)<=1/\(1:Int)<(7:Nat),(by decide)⟩, .pf ⟨(0:Int)<=2/\(2:Int)<(7:Nat),(by decide)⟩, .pf ⟨(0:Int)<=3/\(3:Int)<(7:Nat),(by decide)⟩, .pf ⟨(0:Int)<=4/\(4:Int)<(7:Nat),(by decide)⟩, .pf ⟨[AQ u0 u1 u2 u3].length=1,rfl⟩, .pf ⟨aB 1 4 (iV 4 [.int .i64 u0,.int .i64 u1,.int .i64 u2,.int .i64 u3]) (Oq u0 u1 u2 u3),(by intro i hi j hj;match i,j,hi,hj with|0,0,_,_=>rfl|0,1,_,_=>rfl|0,2,_,_=>rfl|0,3,_,_=>rfl)⟩, .e (p.ac.length),0,1, .pf ⟨(Md p u0 u1 u2 u3).length=p.ac.length+[AQ u0 u1 u2 u3].length,b_⟩, .pf ⟨aB (p.ac.length+[AQ u0 u1 u2 u3].length) 4 (jK (aj aD.cell p.ac) p.ac.length (Oq u0 u1 u2 u3)) (U6 p u0 u1 u2 u3),bH _ _ _ _⟩]<| .r<| .im (.re 17 1 0 63)<| .im (.re 17 2 1 64)<| .en ((⟨p.ag,p.aa,p.ae,Md p u0 u1 u2 u3⟩:af),u7) [] [(63,3),(64,4),(62,5),(17,6)]))
  (.r<| .im (.re 17 1 0 65)<| .im (.re 17 2 1 66)<| .im (.re 17 3 2 67)<| .en (p,u7) [] [(65,3),(66,4),(67,5),(17,6)])))))))
theorem vJ (a:List Source) (b:List Source):gK Tryz.prog 52 [sD (bR none 5 Source.cell a),sD (bR none 5 Source.cell b)] [] (fun r=>(vB r)) (fun _=>[]) (jP a b):=
  iU tT mX Tryz.func52 (
  .r<| .r<| .it (.r<| .e false)
  (.r<| .lp (σ:=Int) (β:=Unit) (0) [] [] ⟨[0,1],[],fun i=>[(5,vI i)],fun i=>[]⟩ ⟨[],[],fun _=>[],fun _=>[]⟩
  (fun i=> .r<| .it (.a2 ((0:Int)<=i/\i<(a.length:Int)) ((0:Int)<=i/\i<(b.length:Int))<| .rg {} [0,1]<| .it (.r<| .e (.done (.ret false)))
  (.r<| .e (.next (k8 i))))
  (.e (.done (.brk ()))))
  (fun _=> .r<| .e true)))
theorem yV (a:List au) (b:List au):gK Tryz.prog 126 [sD (bR none 2 au.cell a),sD (bR none 2 au.cell b)] [] (fun r=>(vB r)) (fun _=>[]) (kU a b):=
  iU tT mX Tryz.func126 (
  .r<| .r<| .it (.r<| .e false)
  (.r<| .lp (σ:=Int) (β:=Unit) (0) [] [] ⟨[0,1],[],fun i=>[(5,vI i)],fun i=>[]⟩ ⟨[],[],fun _=>[],fun _=>[]⟩
  (fun i=> .r<| .it (.a2 ((0:Int)<=i/\i<(a.length:Int)) ((0:Int)<=i/\i<(b.length:Int))<| .rg {} [0,1]<| .it (.r<| .e (.done (.ret false)))
  (.r<| .e (.next (k8 i))))
  (.e (.done (.brk ()))))
  (fun _=> .r<| .e true)))
section
variable (a:Link) (b:Link)
abbrev aaA:=(bif (bif (bif (bif (decide (a.a=b.a))then(decide (a.b=b.b))else false)then(decide (a.kind=b.kind))else false)then(decide (a.most=b.most))else false)then(decide (a.ohm=b.ohm))else false)
end
theorem Am (a:Link) (b:Link):gK Tryz.prog 99 [.agg (k9 a),.agg (k9 b)] [] (fun r=>(vB r)) (fun _=>[]) (lV a b):=
  iU tT mX Tryz.func99 (
  .rg {fr:=[(0,2),(1,3)],fz:=[2,3]} []<| .cg 38 [(aaA a b,true)] (yV a.trip b.trip) fun r_=> .r<| .e (bif (aaA a b)then r_ else false))
theorem yx (a:List Link) (b:List Link):gK Tryz.prog 53 [sD (bR none 6 Link.cell a),sD (bR none 6 Link.cell b)] [] (fun r=>(vB r)) (fun _=>[]) (kW a b):=
  iU tT mX Tryz.func53 (
  .r<| .r<| .it (.r<| .e false)
  (.r<| .lp (σ:=Int) (β:=Unit) (0) [] [] ⟨[0,1],[],fun i=>[(5,vI i)],fun i=>[]⟩ ⟨[],[],fun _=>[],fun _=>[]⟩
  (fun i=> .r<| .it (.cl 8 (Am (at' a i.toNat) (at' b i.toNat)) fun r_=> .a2 (k13 a i) (k13 b i)<| .rg {} [0,1,2]<| .it (.r<| .e (.done (.ret false)))
  (.r<| .e (.next (k8 i))))
  (.e (.done (.brk ()))))
  (fun _=> .r<| .e true)))
theorem yL (a:List aD) (b:List aD):gK Tryz.prog 54 [sD (bR none 4 aD.cell a),sD (bR none 4 aD.cell b)] [] (fun r=>(vB r)) (fun _=>[]) (kR a b):=
  iU tT mX Tryz.func54 (
  .r<| .r<| .it (.r<| .e false)
  (.r<| .lp (σ:=Int) (β:=Unit) (0) [] [] ⟨[0,1],[],fun i=>[(5,vI i)],fun i=>[]⟩ ⟨[],[],fun _=>[],fun _=>[]⟩
  (fun i=> .r<| .it (.a2 ((0:Int)<=i/\i<(a.length:Int)) ((0:Int)<=i/\i<(b.length:Int))<| .rg {} [0,1]<| .it (.r<| .e (.done (.ret false)))
  (.r<| .e (.next (k8 i))))
  (.e (.done (.brk ()))))
  (fun _=> .r<| .e true)))
theorem yG (a:af) (b:af):gK Tryz.prog 20 [.agg (k1 a),.agg (k1 b)] [] (fun r=>(vB r)) (fun _=>[]) (ic a b):=
  iU tT mX Tryz.func20 (
  .rg {fr:=[(0,2),(1,3)],fz:=[2,3]} []<| .cg 10 [(decide (a.ag=b.ag),true)] (vJ a.aa b.aa) fun r_=> .cg 17 [((bif (decide (a.ag=b.ag))then r_ else false),true)] (yx a.ae b.ae) fun u0=> .cg 24 [((bif (bif (decide (a.ag=b.ag))then r_ else false)then u0 else false),true)] (yL a.ac b.ac) fun u1=> .r<| .e (bif (bif (bif (decide (a.ag=b.ag))then r_ else false)then u0 else false)then u1 else false))
theorem zI (p:af) {r:ByteArray × Int} (h:oU p=some r):Fn Tryz.prog 23 [.agg [cI p.ag,.d (bR none 5 Source.cell p.aa),.d (bR none 6 Link.cell p.ae),.d (bR none 4 aD.cell p.ac)]] [] (.eB [sD (.str r.1),sI r.2]) []:=by
 unfold oU at h;cases hc:fq p with
 |none=>rw [hc]at h;cases h
 |some c=>
  rw [hc]at h;simp only [br]at h;cases h0:decide (c=0)with
  |false=>rw [h0]at h;simp only [bu,Option.some.injEq]at h;subst h;exact Gd (of_decide_eq_false h0) ((fZ p).run hc)
  |true=>
   rw [h0]at h;have hc0:=of_decide_eq_true h0;subst hc0;simp only [bt]at h;cases h1:fmtG p.ag p.aa.length p.ae.length p.ac.length (fmtS p) (Xl p) (XQ p) (XM p) (Xj p)with
   |false=>rw [h1]at h;cases h
   |true=>
    rw [h1]at h;simp only [bt,Option.some.injEq]at h;subst h;exact Pk (nb:=p.ag) (es:=aj Source.cell p.aa) (el:=aj Link.cell p.ae) (er:=aj aD.cell p.ac) (et:=fun i=>aj au.cell (at' p.ae i).trip) ((fZ p).run hc)
     (fun i _ j hj=>match j,hj with|0,_=>rfl|1,_=>rfl|2,_=>rfl|3,_=>rfl|4,_=>rfl)
     (fun i _ j hj=>match j,hj with|0,_=>rfl|1,_=>rfl|2,_=>rfl|3,_=>rfl|4,_=>rfl)
     (fun i _=>rfl)
     (fun i _ g _ j hj=>match j,hj with|0,_=>rfl|1,_=>rfl)
     (fun i _ j hj=>match j,hj with|0,_=>rfl|1,_=>rfl|2,_=>rfl|3,_=>rfl) h1
section
variable (n:Int)
abbrev RP:=(List.replicate n.toNat (false:Bool))
end
theorem dB (n:Int):gK Tryz.prog 100 [sI n] [] (fun r=>(vO 0 true r.length)) (fun r=>[(0,some (dz 4 1 av r))]) (dL n):=
  iU tT mX Tryz.func100 (
  .r<| .a3 ((0:Int)<=n) ((1:Int)*n<=281474976710656) ((n:Int)<=9223372036854775807)<| .rg {an:=[(1, .arr (RP n).length (aj av (RP n)))],fr:=[(1,1)]} [0, .e ((n:Int)),1,2, .pf ⟨(RP n).length=n.toNat,dt⟩, .pf ⟨aB n.toNat 1 (fun _ j=>[.bool false].getD j .nilp) (aj av (RP n)),gX _ _ _ _ _ (fun j hj=>(match j,hj with|0,_=>rfl))⟩]<| .en (RP n) [] [(1,0)])
section
variable (u1:List ai) (u0:Int) (u3:Int) (u2:List Bool)
abbrev NW:=(at' ((at' u1 u0.toNat).ag) u3.toNat)
abbrev aat:=((0:Int)<=(NW u1 u0 u3)/\(NW u1 u0 u3)<(u2.length:Int))
abbrev Vg:=(u2.set ((NW u1 u0 u3).toNat) (decide (0<(((at' u1 u0.toNat).aa).length:Int))))
abbrev Uo:=(aj av (Vg u1 u0 u3 u2))
abbrev ZC:=(bW (aj av u2) ((NW u1 u0 u3).toNat) 0 [.bool (decide (0<(((at' u1 u0.toNat).aa).length:Int)))])
abbrev aal:=(Vg u1 u0 u3 u2,k8 u3)
end
theorem CW (p:af) (s_:State):gK Tryz.prog 101 (k22 s_ p) [] (fun r=>(.eB [sD (bR none 1 av r.1),sI r.2])) (fun _=>[]) (zG p s_):=
  iU tT mX Tryz.func101 (
  .rg {fr:=[(0,7),(1,8)],fz:=[7,8]} []<| .cl 2 (dM p s_) fun r_=> .r<| .r<| .it (.r<| .e (([]:List Bool),r_))
  (.a3 ((0:Int)<=p.ag) (S9 p) (TU p)<| .rg {an:=[(2, .arr (qV p).length (Ej p))],fr:=[(2,9)]} [0, .e ((p.ag:Int)),1,2, .pf ⟨(qV p).length=p.ag.toNat,dt⟩, .pf ⟨aB p.ag.toNat 1 (fun _ j=>[.bool false].getD j .nilp) (Ej p),gX _ _ _ _ _ (fun j hj=>(match j,hj with|0,_=>rfl))⟩]<| .cl 2 (kY p s_) fun u1=> .r<| .lp (σ:=((List Bool) × Int)) (β:=(List Bool)) (qV p,0) [] [] ⟨[23,24],[],fun(u4,u0)=>[(7,vO 9 true u4.length),(25,vI u0)],fun(u4,u0)=>[(9,some (dz 4 1 av u4))]⟩ ⟨[],[],fun u5=>[(7,vO 9 true u5.length)],fun u5=>[(9,some (dz 4 1 av u5))]⟩
  (fun(u4,u0)=> .r<| .it (.a1 (Rt u0 u1)<| .rg {fr:=[(2,13)]} []<| .rg {fz:=[13]} []<| .lp (σ:=((List Bool) × Int)) (β:=(List Bool)) (u4,0) [] [] ⟨[9,23,24,25,30,31],[],fun(u2,u3)=>[(7,vO 9 true u2.length),(32,vI u3)],fun(u2,u3)=>[(9,some (dz 4 1 av u2))]⟩ ⟨[23,24,25],[],fun u6=>[(7,vO 9 true u6.length)],fun u6=>[(9,some (dz 4 1 av u6))]⟩
  (fun(u2,u3)=> .r<| .it (.a1 ((0:Int)<=u3/\u3<(((at' u1 u0.toNat).ag).length:Int))<| .r<| .a1 (aat u1 u0 u3 u2)<| .rg {an:=[(7, .arr 0 (Uo u1 u0 u3 u2))]} [0, .t 0 (NW u1 u0 u3) u2.length, .pf ⟨aB u2.length 1 (ZC u1 u0 u3 u2) (Uo u1 u0 u3 u2),aK _ _ _ _ _ _ _ _ rfl (fun j hj=>(match j,hj with|0,_=>rfl))⟩]<| .im (.ll 9 u2 (Vg u1 u0 u3 u2))<| .r<| .e (.next (aal u1 u0 u3 u2)))
  (.e (.done (.brk u2))))
  (fun u6=> .r<| .e (.next (u6,k8 u0))))
  (.e (.done (.brk u4))))
  (fun u5=> .rg {fz:=[9]} []<| .e (u5,0))))
section
variable (p:af) (u0:Int) (r_:(List Bool) × Int) (u1:List aV)
abbrev SY:List DV:=[.int .i64 (NZ p u0)]
abbrev KR:List CV:=[cI (NZ p u0),cI (NP p u0)]
abbrev Z9:=((gB [(decide (0<=(NZ p u0)),true)]=true->(0:Int)<=(Pg p u0).e0/\(Pg p u0).e0<(r_.1.length:Int)))
abbrev Vw:List DV:=[.int .i64 (NP p u0)]
abbrev aaf:=((gB [(decide (0<=(NP p u0)),true)]=true->(0:Int)<=(Pg p u0).e1/\(Pg p u0).e1<(r_.1.length:Int)))
abbrev YV:=(bif (decide (0<=(NZ p u0)))then(at' r_.1 ((NZ p u0).toNat))else false)
abbrev ZW:=(bif (decide (0<=(NP p u0)))then(at' r_.1 ((NP p u0).toNat))else false)
abbrev FT:=(⟨YV p u0 r_,ZW p u0 r_⟩:aV)
abbrev WV:=(u1.length+[FT p u0 r_].length)
abbrev abg:=((WV p u0 r_ u1)*2<=140737488355328)
abbrev aa3:=(u1.length+[FT p u0 r_].length<=4611686018427387904)
abbrev QB:=(aj aV.cell [FT p u0 r_])
abbrev Oi:=(u1++[FT p u0 r_])
abbrev Vz:=(aj aV.cell (Oi p u0 r_ u1))
abbrev ZU:=(iV 2 [.bool (YV p u0 r_),.bool (ZW p u0 r_)])
abbrev aa6:=(jK (aj aV.cell u1) u1.length (QB p u0 r_))
abbrev ZB:=(Oi p u0 r_ u1,k8 u0)
end
theorem EB (p:af) (s_:State):gK Tryz.prog 56 (k22 s_ p) [] (fun r=>(.eB [sD (bR none 2 aV.cell r.1),sI r.2])) (fun _=>[]) (Cj p s_):=
  iU tT mX Tryz.func56 (
  .rg {fr:=[(0,18),(1,19)],fz:=[19]} []<| .cl 2 (CW p s_) fun r_=> .r<| .r<| .it (.r<| .e (([]:List aV),r_.2))
  (.r<| .r<| .im (.ad 8 36 112 2 (aj aV.cell ([]:List aV)))<| .lp (σ:=((List aV) × Int)) (β:=(List aV)) (([]:List aV),0) [] [(36,23)] ⟨[6,24,25],[],fun(u1,u0)=>[(8,vO 23 false u1.length),(26,vI u0)],fun(u1,u0)=>[(23,some (dz 112 2 aV.cell u1))]⟩ ⟨[],[],fun u2=>[(8,vO 23 false u2.length)],fun u2=>[(23,some (dz 112 2 aV.cell u2))]⟩
  (fun(u1,u0)=> .r<| .it (.a1 (k21 p u0)<| .rg {fr:=[(2,32)],fz:=[32]} []<| .rg {fr:=[(0,33)]} []<| .r<| .ul 11<| .r<| .t<| .rg {an:=[(1, .vals (SY p u0))]} [.pf ⟨(0:Int)<=0/\(0:Int)<(2:Nat),(by decide)⟩, .pf ⟨0*1+1<=(KR p u0).length,cj rfl⟩, .pf ⟨((KR p u0).drop (0*1)).take 1=(SY p u0).map .d,rfl⟩]<| .a1 (Z9 p u0 r_)<| .rg {} [0, .pf ⟨(0:Int)<=0/\(0:Int)<(2:Nat),(by decide)⟩]<| .r<| .im (.dp [6,8,11,24,25,26,31,32])<| .r<| .t<| .rg {an:=[(1, .vals (Vw p u0))]} [.pf ⟨(0:Int)<=1/\(1:Int)<(2:Nat),(by decide)⟩, .pf ⟨1*1+1<=(KR p u0).length,cj rfl⟩, .pf ⟨((KR p u0).drop (1*1)).take 1=(Vw p u0).map .d,rfl⟩]<| .a1 (aaf p u0 r_)<| .rg {} [0, .pf ⟨(0:Int)<=1/\(1:Int)<(2:Nat),(by decide)⟩]<| .r<| .im (.dp [6,8,11,24,25,26,31,32])<| .r<| .f<| .a2 (abg p u0 r_ u1) (aa3 p u0 r_ u1)<| .rg {an:=[(2, .arr [FT p u0 r_].length (QB p u0 r_)),(3, .arr (Oi p u0 r_ u1).length (Vz p u0 r_ u1))],fr:=[(2,34),(3,35)]} [.pf ⟨[FT p u0 r_].length=1,rfl⟩, .pf ⟨aB 1 2 (ZU p u0 r_) (QB p u0 r_),(by intro i hi j hj;match i,j,hi,hj with|0,0,_,_=>rfl|0,1,_,_=>rfl)⟩, .e (u1.length),0,1, .pf ⟨(Oi p u0 r_ u1).length=u1.length+[FT p u0 r_].length,b_⟩, .pf ⟨aB (WV p u0 r_ u1) 2 (aa6 p u0 r_ u1) (Vz p u0 r_ u1),bH _ _ _ _⟩]<| .r<| .en (.next (ZB p u0 r_ u1)) [] [(35,23)])
  (.e (.done (.brk u1))))
  (fun u2=> .rg {fz:=[23]} []<| .e (u2,0))))
theorem nU (s_:List Bool) (u0:Bool):gK Tryz.prog 141 [sD (bR (some u0) 1 av s_)] [] (fun r=>(vO 0 false r.length)) (fun r=>[(0,some (dz 4 1 av r))]) (vR s_ u0):=
  iU tT mX Tryz.func141 (
  .r<| .r<| .it (.r<| .im (.ad 2 2 4 1 (aj av ([]:List Bool)))<| .en ([]:List Bool) [] [(2,0)])
  (.a2 ((([]:List Bool).length+s_.length)*1<=140737488355328) (([]:List Bool).length+s_.length<=4611686018427387904)<| .rg {an:=[(0, .arr ([]:List Bool).length (aj av ([]:List Bool))),(2, .arr (([]:List Bool)++s_).length (aj av (([]:List Bool)++s_)))],fr:=[(0,3),(2,4)]} [.pf ⟨([]:List Bool).length=0,rfl⟩, .pf ⟨aB 0 1 (iV 1 []) (aj av ([]:List Bool)),(fun i hi=>absurd hi (cJ i))⟩, .e (([]:List Bool).length),0,1, .pf ⟨(([]:List Bool)++s_).length=([]:List Bool).length+s_.length,b_⟩, .pf ⟨aB (([]:List Bool).length+s_.length) 1 (jK (aj av ([]:List Bool)) ([]:List Bool).length (aj av s_)) (aj av (([]:List Bool)++s_)),bH _ _ _ _⟩]<| .en (([]:List Bool)++s_) [] [(4,0)]))
theorem cO (s:List Bool) {r:List Bool} (h:dW s=some r):Fn Tryz.prog 141 [sD (bR none 1 av s)] [] (vO 0 false r.length) [(0,some (dz 4 1 av r))]:=by
 refine Fn.nn (nU s true h) fun hl=> ?_;have hs:s=[]:=List.eq_nil_of_length_eq_zero hl;subst hs;exact nU [] false (by rw [<-h];kernel_rfl)
theorem vM (s_:State):gK Tryz.prog 127 [.agg (k23 s_)] [] (fun r=>(.v (.agg [.own 0 false r.a_.length,.own 1 false r.bh.length,.own 2 false r.aq.length,.own 3 false r.on_.length,.own 4 false r.am.length,.own 5 false r.ba.length,.own 6 false r.ap.length]))) (fun r=>[(0,some (dz 4 1 av r.a_)),(1,some (dz 4 1 av r.bh)),(2,some (dz 4 1 av r.aq)),(3,some (dz 4 1 av r.on_)),(4,some (dz 4 1 av r.am)),(5,some (dz 4 1 av r.ba)),(6,some (dz 4 1 av r.ap)),(7,none)]) (wh s_):=
  iU tT mX Tryz.func127 (
  .rg {fr:=[(0,10),(1,11)]} []<| .rg {an:=[(7, .cells)],fr:=[(7,12)]} []<| .ul 11<| .r<| .t<| .a1 ((0:Int)<=0/\0<(7:Int))<| .r<| .cl 4 (rQ [(0,13)] ⟨fun h=>cO s_.a_ h⟩) fun r_=> .r<| .r<| .im (.dp [1,2,12,13,14])<| .r<| .t<| .a1 ((0:Int)<=1/\1<(7:Int))<| .r<| .cl 4 (rQ [(0,14)] ⟨fun h=>cO s_.bh h⟩) fun u0=> .r<| .r<| .im (.dp [1,2,12,13,14])<| .r<| .t<| .a1 ((0:Int)<=2/\2<(7:Int))<| .r<| .cl 4 (rQ [(0,15)] ⟨fun h=>cO s_.aq h⟩) fun u1=> .r<| .r<| .im (.dp [1,2,12,13,14])<| .r<| .t<| .a1 ((0:Int)<=3/\3<(7:Int))<| .r<| .cl 4 (rQ [(0,16)] ⟨fun h=>cO s_.on_ h⟩) fun u2=> .r<| .r<| .im (.dp [1,2,12,13,14])<| .r<| .t<| .a1 ((0:Int)<=4/\4<(7:Int))<| .r<| .cl 4 (rQ [(0,17)] ⟨fun h=>cO s_.am h⟩) fun u3=> .r<| .r<| .im (.dp [1,2,12,13,14])<| .r<| .t<| .a1 ((0:Int)<=5/\5<(7:Int))<| .r<| .cl 4 (rQ [(0,18)] ⟨fun h=>cO s_.ba h⟩) fun u4=> .r<| .r<| .im (.dp [1,2,12,13,14])<| .r<| .t<| .a1 ((0:Int)<=6/\6<(7:Int))<| .r<| .cl 4 (rQ [(0,19)] ⟨fun h=>cO s_.ap h⟩) fun u5=> .r<| .r<| .im (.dp [1,2,12,13,14])<| .r<| .f<| .r<| .en (⟨r_,u0,u1,u2,u3,u4,u5⟩:State) [] [(13,0),(14,1),(15,2),(16,3),(17,4),(18,5),(19,6),(11,7)])
end
end Sg
