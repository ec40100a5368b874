import Derived.Test.YtbjhjmcpfmhgdaaGreatSsLd
set_option linter.all false
namespace Sg
open Go
structure Source where
 bus:Int
 kind:Int
 power:Int
 bs:Int
 ohm:Int
instance:Inhabited Source:=⟨⟨default,default,default,default,default⟩⟩
def Source.cell (x:Source):Nat->DV
 |0=>(.int .i64 x.bus)
 |1=>(.int .i64 x.kind)
 |2=>(.int .i64 x.power)
 |3=>(.int .i64 x.bs)
 |4=>(.int .i64 x.ohm)
 |_=> .nilp
structure gT where
 amps:Int
 bm:Int
instance:Inhabited gT:=⟨⟨default,default⟩⟩
def gT.cell (x:gT):Nat->DV
 |0=>(.int .i64 x.amps)
 |1=>(.int .i64 x.bm)
 |_=> .nilp
structure Link where
 a:Int
 b:Int
 kind:Int
 most:Int
 ohm:Int
 trip:(List gT)
instance:Inhabited Link:=⟨⟨default,default,default,default,default,default⟩⟩
def Link.cell (x:Link):Nat->DV
 |0=>(.int .i64 x.a)
 |1=>(.int .i64 x.b)
 |2=>(.int .i64 x.kind)
 |3=>(.int .i64 x.most)
 |4=>(.int .i64 x.ohm)
 |5=>(aS none 2 gT.cell x.trip)
 |_=> .nilp
structure aB where
 e0:Int
 e1:Int
instance:Inhabited aB:=⟨⟨default,default⟩⟩
def aB.cell (x:aB):Nat->DV
 |0=>(.int .i64 x.e0)
 |1=>(.int .i64 x.e1)
 |_=> .nilp
structure aY where
 bh:aB
 power:Int
 paths:Int
instance:Inhabited aY:=⟨⟨default,default,default⟩⟩
def aY.cell (x:aY):Nat->DV
 |0=>(.int .i64 x.bh.e0)
 |1=>(.int .i64 x.bh.e1)
 |2=>(.int .i64 x.power)
 |3=>(.int .i64 x.paths)
 |_=> .nilp
structure au where
 aw:Int
 aa:(List Source)
 ac:(List Link)
 a_:(List aY)
instance:Inhabited au:=⟨⟨default,default,default,default⟩⟩
def au.cell (x:au):Nat->DV
 |0=>(.int .i64 x.aw)
 |1=>(aS none 5 Source.cell x.aa)
 |2=>(aS none 6 Link.cell x.ac)
 |3=>(aS none 4 aY.cell x.a_)
 |_=> .nilp
structure State where
 am:(List Bool)
 ar:(List Bool)
 ap:(List Bool)
 on_:(List Bool)
 ae:(List Bool)
 ag:(List Bool)
 aq:(List Bool)
instance:Inhabited State:=⟨⟨default,default,default,default,default,default,default⟩⟩
def State.cell (x:State):Nat->DV
 |0=>(aS none 1 ah x.am)
 |1=>(aS none 1 ah x.ar)
 |2=>(aS none 1 ah x.ap)
 |3=>(aS none 1 ah x.on_)
 |4=>(aS none 1 ah x.ae)
 |5=>(aS none 1 ah x.ag)
 |6=>(aS none 1 ah x.aq)
 |_=> .nilp
structure af where
 deed:Int
 index:Int
instance:Inhabited af:=⟨⟨default,default⟩⟩
def af.cell (x:af):Nat->DV
 |0=>(.int .i64 x.deed)
 |1=>(.int .i64 x.index)
 |_=> .nilp
structure Task where
 fed:(List Int)
 bj:(List Int)
 ba:(List af)
 bk:(List af)
instance:Inhabited Task:=⟨⟨default,default,default,default⟩⟩
def Task.cell (x:Task):Nat->DV
 |0=>(aS none 1 (bK .i64) x.fed)
 |1=>(aS none 1 (bK .i64) x.bj)
 |2=>(aS none 2 af.cell x.ba)
 |3=>(aS none 2 af.cell x.bk)
 |_=> .nilp
structure dH where
 l:(List Bool)
 n:Int
instance:Inhabited dH:=⟨⟨default,default⟩⟩
def dH.cell (x:dH):Nat->DV
 |0=>(aS none 1 ah x.l)
 |1=>(.int .i64 x.n)
 |_=> .nilp
structure bn where
 bp:(List (Int × Int))
instance:Inhabited bn:=⟨⟨default⟩⟩
def bn.cell (x:bn):Nat->DV
 |0=> .nilp
 |_=> .nilp
structure aI where
 aw:(List Int)
 aa:(List Int)
instance:Inhabited aI:=⟨⟨default,default⟩⟩
def aI.cell (x:aI):Nat->DV
 |0=>(aS none 1 (bK .i64) x.aw)
 |1=>(aS none 1 (bK .i64) x.aa)
 |_=> .nilp
structure bA where
 e0:Bool
 e1:Bool
instance:Inhabited bA:=⟨⟨default,default⟩⟩
def bA.cell (x:bA):Nat->DV
 |0=>(.bool x.e0)
 |1=>(.bool x.e1)
 |_=> .nilp
structure Reached where
 s_:State
 from_:Int
 by_:af
instance:Inhabited Reached:=⟨⟨default,default,default⟩⟩
def Reached.cell (x:Reached):Nat->DV
 |0=>(aS none 1 ah x.s_.am)
 |1=>(aS none 1 ah x.s_.ar)
 |2=>(aS none 1 ah x.s_.ap)
 |3=>(aS none 1 ah x.s_.on_)
 |4=>(aS none 1 ah x.s_.ae)
 |5=>(aS none 1 ah x.s_.ag)
 |6=>(aS none 1 ah x.s_.aq)
 |7=>(.int .i64 x.from_)
 |8=>(.int .i64 x.by_.deed)
 |9=>(.int .i64 x.by_.index)
 |_=> .nilp
structure Search where
 l:(List Reached)
 bi:(List ((List Bool) × Bool))
instance:Inhabited Search:=⟨⟨default,default⟩⟩
def Search.cell (x:Search):Nat->DV
 |0=>(aS none 10 Reached.cell x.l)
 |1=> .nilp
 |_=> .nilp
def aI.ev (x:aI):Nat->EV
 |0=> .row 3 1 x.aw.length (ay (bK .i64) x.aw)
 |1=> .row 3 1 x.aa.length (ay (bK .i64) x.aa)
 |_=> .d .nilp
def kT:Option (au × State):=
 aP (((0:Int)<=2)/\((1:Int)*2<=281474976710656)/\((2:Int)<=9223372036854775807)/\((0:Int)<=1)/\((1:Int)*1<=281474976710656)/\((1:Int)<=9223372036854775807)/\((0:Int)<=3)/\((1:Int)*3<=281474976710656)/\((3:Int)<=9223372036854775807)) (
 some ((⟨3,[(⟨0,1,500,0,20⟩:Source)],[(⟨0,1,3,400,10,([]:List gT)⟩:Link),(⟨1,2,2,400,10,([]:List gT)⟩:Link)],[(⟨(⟨2,-1⟩:aB),100,1⟩:aY)]⟩:au),(⟨[true,true],List.replicate 2 (false:Bool),List.replicate 2 (false:Bool),[true],List.replicate 1 (false:Bool),List.replicate 3 (false:Bool),List.replicate 3 (false:Bool)⟩:State)))
def lN (a:List Int) (b:List Int):Int->Option (bO Int (Ex Unit Bool)):=
 fun i=>
 bif (decide (i<(a.length:Int)))then
 aP (((0:Int)<=i/\i<(a.length:Int))/\((0:Int)<=i/\i<(b.length:Int))) (
 bif (!decide ((at' a i.toNat)=(at' b i.toNat)))then
 some (.done (.ret false))
 else
 some (.next (IntKind.wrap .i64 (i+1))))
 else
 some (.done (.brk ()))
def gJ (a:List Int) (b:List Int):Option Bool:=
 bif (!decide ((a.length:Int)=(b.length:Int)))then
 some false
 else
 Option.bind (aH (lN a b) FUEL (0)) fun o=>match o with
 | .ret v=>some v
 | .brk _=>
 some true
def mM (l:List Int):Option (List Int):=
 aP ((l.length*8<=140737488355328)/\(l.length<=4611686018427387904)) (
 some l)
def kP (l:List af):Option (List af):=
 aP ((l.length*16<=140737488355328)/\(l.length<=4611686018427387904)) (
 some l)
def fq (t:Task):Option Task:=
 (mM t.fed).bind fun r_=>
 (mM t.bj).bind fun r_1=>
 (kP t.ba).bind fun r_2=>
 (kP t.bk).bind fun r_3=>
 some (⟨r_,r_1,r_2,r_3⟩:Task)
def bg (n:Int) (first:Int) (last:Int):Option Bool:=
 some (bif (decide (first<=n))then(decide (n<=last))else false)
def tV (p:au):Option (Int × (List Source) × (List Link) × (List aY)):=
 some (p.aw,p.aa,p.ac,p.a_)
def xJ (p:au):Option (Int × (List Source) × (List Link) × (List aY)):=
 some (p.aw,p.aa,p.ac,p.a_)
def xH (p:au):Option (Int × (List Source) × (List Link) × (List aY)):=
 some (p.aw,p.aa,p.ac,p.a_)
def mW (x:Source) (x1:Int) (x11:List Source) (x12:List Link) (x13:List aY):Option Bool:=
 (bg x.bus 0 (IntKind.wrap .i64 (x1 - 1))).bind fun r_=>
 (bif gB [(r_,true)]then bg x.kind 1 3 else some default).bind fun r_1=>
 (bif gB [((bif r_ then r_1 else false),true)]then bg x.power 1 100000 else some default).bind fun r_2=>
 (bif gB [((bif (bif r_ then r_1 else false)then r_2 else false),true)]then bg x.bs 0 8 else some default).bind fun r_3=>
 (bif gB [((bif (bif (bif r_ then r_1 else false)then r_2 else false)then r_3 else false),true)]then bg x.ohm 10 100000 else some default).bind fun r_4=>
 some (bif (bif (bif (bif r_ then r_1 else false)then r_2 else false)then r_3 else false)then r_4 else false)
def uH (x:Source) (x1:Int) (x11:List Source) (x12:List Link) (x13:List aY):Option Bool:=
 (mW x x1 x11 x12 x13).bind fun r_=>
 some (!r_)
def lH (s_:List Source) (f_:Int) (f_1:List Source) (f_2:List Link) (f_3:List aY):Int->Option (bO Int (Ex Unit Int)):=
 fun t8=>
 bif (decide (t8<(s_.length:Int)))then
 (uH (at' s_ t8.toNat) f_ f_1 f_2 f_3).bind fun r_=>
 aP ((0:Int)<=t8/\t8<(s_.length:Int)) (
 bif r_ then
 some (.done (.ret t8))
 else
 some (.next (IntKind.wrap .i64 (t8+1))))
 else
 some (.done (.brk ()))
def oO (s_:List Source) (f_:Int) (f_1:List Source) (f_2:List Link) (f_3:List aY):Option Int:=
 Option.bind (aH (lH s_ f_ f_1 f_2 f_3) FUEL (0)) fun o=>match o with
 | .ret v=>some v
 | .brk _=>
 some (-1)
def iR (s_:List Source) (f_:Int) (f_1:List Source) (f_2:List Link) (f_3:List aY):Option Bool:=
 (oO s_ f_ f_1 f_2 f_3).bind fun r_=>
 some (decide (0<=r_))
def rY (l:List Source) (most:Int) (right:Int) (right1:List Source) (right2:List Link) (right3:List aY):Option Bool:=
 (bif gB [(decide ((l.length:Int)<=most),true)]then iR l right right1 right2 right3 else some default).bind fun r_=>
 some (bif (decide ((l.length:Int)<=most))then(!r_)else false)
def lQ (x:Link):Int->Option (bO Int (Ex Unit Bool)):=
 fun t50=>
 bif (decide (t50<(x.trip.length:Int)))then
 aP ((0:Int)<=t50/\t50<(x.trip.length:Int)) (
 (bg ((at' x.trip t50.toNat).amps) 1 1000000).bind fun r_5=>
 (bif gB [(!r_5,false)]then bg ((at' x.trip t50.toNat).bm) 1 100000 else some default).bind fun r_6=>
 aP ((gB [(decide (0<t50),true),((bif (!r_5)then true else(!r_6)),false)]=true->(0:Int)<=(IntKind.wrap .i64 (t50 - 1))/\(IntKind.wrap .i64 (t50 - 1))<(x.trip.length:Int))/\(gB [(decide (((at' x.trip t50.toNat).amps)<=((at' x.trip ((IntKind.wrap .i64 (t50 - 1)).toNat)).amps)),false),(decide (0<t50),true),((bif (!r_5)then true else(!r_6)),false)]=true->(0:Int)<=(IntKind.wrap .i64 (t50 - 1))/\(IntKind.wrap .i64 (t50 - 1))<(x.trip.length:Int))) (
 bif (bif (bif (!r_5)then true else(!r_6))then true else(bif (decide (0<t50))then(bif (decide (((at' x.trip t50.toNat).amps)<=((at' x.trip ((IntKind.wrap .i64 (t50 - 1)).toNat)).amps)))then true else(decide (((at' x.trip ((IntKind.wrap .i64 (t50 - 1)).toNat)).bm)<=((at' x.trip t50.toNat).bm))))else false))then
 some (.done (.ret false))
 else
 some (.next (IntKind.wrap .i64 (t50+1)))))
 else
 some (.done (.brk ()))
def qb (x:Link) (x1:Int) (x11:List Source) (x12:List Link) (x13:List aY):Option Bool:=
 (bg x.a 0 (IntKind.wrap .i64 (x1 - 1))).bind fun r_=>
 (bif gB [(!r_,false)]then bg x.b 0 (IntKind.wrap .i64 (x1 - 1))else some default).bind fun r_1=>
 (bif gB [((bif (bif (!r_)then true else(!r_1))then true else(decide (x.a=x.b))),false)]then bg x.kind 1 3 else some default).bind fun r_2=>
 (bif gB [((bif (bif (bif (!r_)then true else(!r_1))then true else(decide (x.a=x.b)))then true else(!r_2)),false)]then bg x.most 1 100000 else some default).bind fun r_3=>
 (bif gB [((bif (bif (bif (bif (!r_)then true else(!r_1))then true else(decide (x.a=x.b)))then true else(!r_2))then true else(!r_3)),false)]then bg x.ohm 10 100000 else some default).bind fun r_4=>
 bif (bif (bif (bif (bif (bif (!r_)then true else(!r_1))then true else(decide (x.a=x.b)))then true else(!r_2))then true else(!r_3))then true else(!r_4))then
 some false
 else
 Option.bind (aH (lQ x) FUEL (0)) fun o=>match o with
 | .ret v=>some v
 | .brk _=>
 some (bif (decide ((x.trip.length:Int)<=6))then(bif (decide ((x.trip.length:Int)=0))then true else(decide (x.kind=3)))else false)
def pV (x:Link) (x1:Int) (x11:List Source) (x12:List Link) (x13:List aY):Option Bool:=
 (qb x x1 x11 x12 x13).bind fun r_=>
 some (!r_)
def jK (s_:List Link) (f_:Int) (f_1:List Source) (f_2:List Link) (f_3:List aY):Int->Option (bO Int (Ex Unit Int)):=
 fun t8=>
 bif (decide (t8<(s_.length:Int)))then
 (pV (at' s_ t8.toNat) f_ f_1 f_2 f_3).bind fun r_=>
 aP ((0:Int)<=t8/\t8<(s_.length:Int)) (
 bif r_ then
 some (.done (.ret t8))
 else
 some (.next (IntKind.wrap .i64 (t8+1))))
 else
 some (.done (.brk ()))
def lF (s_:List Link) (f_:Int) (f_1:List Source) (f_2:List Link) (f_3:List aY):Option Int:=
 Option.bind (aH (jK s_ f_ f_1 f_2 f_3) FUEL (0)) fun o=>match o with
 | .ret v=>some v
 | .brk _=>
 some (-1)
def gy (s_:List Link) (f_:Int) (f_1:List Source) (f_2:List Link) (f_3:List aY):Option Bool:=
 (lF s_ f_ f_1 f_2 f_3).bind fun r_=>
 some (decide (0<=r_))
def o8 (l:List Link) (most:Int) (right:Int) (right1:List Source) (right2:List Link) (right3:List aY):Option Bool:=
 (bif gB [(decide ((l.length:Int)<=most),true)]then gy l right right1 right2 right3 else some default).bind fun r_=>
 some (bif (decide ((l.length:Int)<=most))then(!r_)else false)
def qK (x:aY):Option Int:=
 bif (decide (x.bh.e1=(-1)))then
 some 1
 else
 some 2
def pX (x:aY) (x1:Int) (x11:List Source) (x12:List Link) (x13:List aY):Option Bool:=
 (bg x.bh.e0 0 (IntKind.wrap .i64 (x1 - 1))).bind fun r_=>
 (bif gB [(r_,true)]then bg x.bh.e1 (-1) (IntKind.wrap .i64 (x1 - 1))else some default).bind fun r_1=>
 (bif gB [((bif (bif r_ then r_1 else false)then(!decide (x.bh.e0=x.bh.e1))else false),true)]then bg x.power 1 100000 else some default).bind fun r_2=>
 (bif gB [((bif (bif (bif r_ then r_1 else false)then(!decide (x.bh.e0=x.bh.e1))else false)then r_2 else false),true)]then qK x else some default).bind fun r_3=>
 (bif gB [((bif (bif (bif r_ then r_1 else false)then(!decide (x.bh.e0=x.bh.e1))else false)then r_2 else false),true)]then bg x.paths 0 r_3 else some default).bind fun r_4=>
 some (bif (bif (bif (bif r_ then r_1 else false)then(!decide (x.bh.e0=x.bh.e1))else false)then r_2 else false)then r_4 else false)
def pG (x:aY) (x1:Int) (x11:List Source) (x12:List Link) (x13:List aY):Option Bool:=
 (pX x x1 x11 x12 x13).bind fun r_=>
 some (!r_)
def jH (s_:List aY) (f_:Int) (f_1:List Source) (f_2:List Link) (f_3:List aY):Int->Option (bO Int (Ex Unit Int)):=
 fun t8=>
 bif (decide (t8<(s_.length:Int)))then
 (pG (⟨(at' s_ t8.toNat).bh,(at' s_ t8.toNat).power,(at' s_ t8.toNat).paths⟩:aY) f_ f_1 f_2 f_3).bind fun r_=>
 aP ((0:Int)<=t8/\t8<(s_.length:Int)) (
 bif r_ then
 some (.done (.ret t8))
 else
 some (.next (IntKind.wrap .i64 (t8+1))))
 else
 some (.done (.brk ()))
def lC (s_:List aY) (f_:Int) (f_1:List Source) (f_2:List Link) (f_3:List aY):Option Int:=
 Option.bind (aH (jH s_ f_ f_1 f_2 f_3) FUEL (0)) fun o=>match o with
 | .ret v=>some v
 | .brk _=>
 some (-1)
def gD (s_:List aY) (f_:Int) (f_1:List Source) (f_2:List Link) (f_3:List aY):Option Bool:=
 (lC s_ f_ f_1 f_2 f_3).bind fun r_=>
 some (decide (0<=r_))
def pE (l:List aY) (most:Int) (right:Int) (right1:List Source) (right2:List Link) (right3:List aY):Option Bool:=
 (bif gB [(decide ((l.length:Int)<=most),true)]then gD l right right1 right2 right3 else some default).bind fun r_=>
 some (bif (decide ((l.length:Int)<=most))then(!r_)else false)
def qJ (p:au):Option Int:=
 (bg p.aw 1 24).bind fun r_=>
 bif (!r_)then
 some 10
 else
 (tV p).bind fun r_1=>
 (rY p.aa 8 r_1.1 r_1.2.1 r_1.2.2.1 r_1.2.2.2).bind fun r_2=>
 bif (!r_2)then
 some 11
 else
 (xJ p).bind fun r_3=>
 (o8 p.ac 40 r_3.1 r_3.2.1 r_3.2.2.1 r_3.2.2.2).bind fun r_4=>
 bif (!r_4)then
 some 12
 else
 (xH p).bind fun r_5=>
 (pE p.a_ 24 r_5.1 r_5.2.1 r_5.2.2.1 r_5.2.2.2).bind fun r_6=>
 bif (!r_6)then
 some 13
 else
 some 0
def iU (p:au) (s_:State):Int->Option (bO Int (Ex Unit Int)):=
 fun t55=>
 bif (decide (t55<([(⟨s_.am,(p.ac.length:Int)⟩:dH),(⟨s_.ar,(p.ac.length:Int)⟩:dH),(⟨s_.ap,(p.ac.length:Int)⟩:dH),(⟨s_.on_,(p.aa.length:Int)⟩:dH),(⟨s_.ae,(p.aa.length:Int)⟩:dH),(⟨s_.ag,p.aw⟩:dH),(⟨s_.aq,p.aw⟩:dH)].length:Int)))then
 aP ((0:Int)<=t55/\t55<([(⟨s_.am,(p.ac.length:Int)⟩:dH),(⟨s_.ar,(p.ac.length:Int)⟩:dH),(⟨s_.ap,(p.ac.length:Int)⟩:dH),(⟨s_.on_,(p.aa.length:Int)⟩:dH),(⟨s_.ae,(p.aa.length:Int)⟩:dH),(⟨s_.ag,p.aw⟩:dH),(⟨s_.aq,p.aw⟩:dH)].length:Int)) (
 bif (!decide ((((at' [(⟨s_.am,(p.ac.length:Int)⟩:dH),(⟨s_.ar,(p.ac.length:Int)⟩:dH),(⟨s_.ap,(p.ac.length:Int)⟩:dH),(⟨s_.on_,(p.aa.length:Int)⟩:dH),(⟨s_.ae,(p.aa.length:Int)⟩:dH),(⟨s_.ag,p.aw⟩:dH),(⟨s_.aq,p.aw⟩:dH)] t55.toNat).l).length:Int)=((at' [(⟨s_.am,(p.ac.length:Int)⟩:dH),(⟨s_.ar,(p.ac.length:Int)⟩:dH),(⟨s_.ap,(p.ac.length:Int)⟩:dH),(⟨s_.on_,(p.aa.length:Int)⟩:dH),(⟨s_.ae,(p.aa.length:Int)⟩:dH),(⟨s_.ag,p.aw⟩:dH),(⟨s_.aq,p.aw⟩:dH)] t55.toNat).n)))then
 some (.done (.ret 9))
 else
 some (.next (IntKind.wrap .i64 (t55+1))))
 else
 some (.done (.brk ()))
def iO (p:au) (s_:State):Int->Option (bO Int (Ex Unit Int)):=
 fun t69=>
 bif (decide (t69<(p.ac.length:Int)))then
 aP ((0:Int)<=t69/\t69<(p.ac.length:Int)) (
 aP ((gB [(decide (((at' p.ac t69.toNat).kind)=1),true)]=true->(0:Int)<=t69/\t69<(s_.am.length:Int))/\(gB [(!(at' s_.am t69.toNat),false),(decide (((at' p.ac t69.toNat).kind)=1),true)]=true->(0:Int)<=t69/\t69<(s_.ar.length:Int))) (
 bif (bif (decide (((at' p.ac t69.toNat).kind)=1))then(bif (!(at' s_.am t69.toNat))then true else(at' s_.ar t69.toNat))else false)then
 some (.done (.ret 9))
 else
 some (.next (IntKind.wrap .i64 (t69+1)))))
 else
 some (.done (.brk ()))
def dZ (p:au) (s_:State):Option Int:=
 (qJ p).bind fun r_=>
 bif (!decide (r_=0))then
 some r_
 else
 Option.bind (aH (iU p s_) FUEL (0)) fun o=>match o with
 | .ret v=>some v
 | .brk _=>
 Option.bind (aH (iO p s_) FUEL (0)) fun o=>match o with
 | .ret v=>some v
 | .brk _=>
 some 0
def oI (i:Int) (x1:Int):Option Bool:=
 some (bif (decide (i<0))then true else(decide (x1<=i)))
def jJ (s_:List Int) (f_:Int):Int->Option (bO Int (Ex Unit Int)):=
 fun t8=>
 bif (decide (t8<(s_.length:Int)))then
 (oI (at' s_ t8.toNat) f_).bind fun r_=>
 aP ((0:Int)<=t8/\t8<(s_.length:Int)) (
 bif r_ then
 some (.done (.ret t8))
 else
 some (.next (IntKind.wrap .i64 (t8+1))))
 else
 some (.done (.brk ()))
def lg (s_:List Int) (f_:Int):Option Int:=
 Option.bind (aH (jJ s_ f_) FUEL (0)) fun o=>match o with
 | .ret v=>some v
 | .brk _=>
 some (-1)
def gQ (s_:List Int) (f_:Int):Option Bool:=
 (lg s_ f_).bind fun r_=>
 some (decide (0<=r_))
def jY (l:List Int) (n:Int):Option Bool:=
 (bif gB [(decide ((l.length:Int)<=24),true)]then gQ l n else some default).bind fun r_=>
 some (bif (decide ((l.length:Int)<=24))then(!r_)else false)
def mK (p:au) (x:af):Option Bool:=
 bif (decide (x.deed=1))then
 bif (decide (x.deed=1))then
 aP (gB [((bif (decide (0<=x.index))then(decide (x.index<(p.ac.length:Int)))else false),true)]=true->(0:Int)<=x.index/\x.index<(p.ac.length:Int)) (
 some (bif (bif (decide (0<=x.index))then(decide (x.index<(p.ac.length:Int)))else false)then(!decide (((at' p.ac x.index.toNat).kind)=1))else false))
 else
 bif (decide (x.deed=3))then
 bif (decide (x.deed=3))then
 some (bif (decide (0<=x.index))then(decide (x.index<p.aw))else false)
 else
 bif (decide (x.deed=7))then
 bif (decide (x.deed=7))then
 some (bif (decide (0<=x.index))then(decide (x.index<(p.aa.length:Int)))else false)
 else
 aP (gB [((bif (decide (0<=x.index))then(decide (x.index<0))else false),true)]=true->(0:Int)<=x.index/\x.index<(p.ac.length:Int)) (
 some (bif (bif (decide (0<=x.index))then(decide (x.index<0))else false)then(!decide (((at' p.ac x.index.toNat).kind)=1))else false))
 else
 bif (decide (x.deed=8))then
 some (bif (decide (0<=x.index))then(decide (x.index<(p.aa.length:Int)))else false)
 else
 aP (gB [((bif (decide (0<=x.index))then(decide (x.index<0))else false),true)]=true->(0:Int)<=x.index/\x.index<(p.ac.length:Int)) (
 some (bif (bif (decide (0<=x.index))then(decide (x.index<0))else false)then(!decide (((at' p.ac x.index.toNat).kind)=1))else false))
 else
 bif (decide (x.deed=4))then
 some (bif (decide (0<=x.index))then(decide (x.index<p.aw))else false)
 else
 bif (decide (x.deed=7))then
 bif (decide (x.deed=7))then
 some (bif (decide (0<=x.index))then(decide (x.index<(p.aa.length:Int)))else false)
 else
 aP (gB [((bif (decide (0<=x.index))then(decide (x.index<0))else false),true)]=true->(0:Int)<=x.index/\x.index<(p.ac.length:Int)) (
 some (bif (bif (decide (0<=x.index))then(decide (x.index<0))else false)then(!decide (((at' p.ac x.index.toNat).kind)=1))else false))
 else
 bif (decide (x.deed=8))then
 some (bif (decide (0<=x.index))then(decide (x.index<(p.aa.length:Int)))else false)
 else
 aP (gB [((bif (decide (0<=x.index))then(decide (x.index<0))else false),true)]=true->(0:Int)<=x.index/\x.index<(p.ac.length:Int)) (
 some (bif (bif (decide (0<=x.index))then(decide (x.index<0))else false)then(!decide (((at' p.ac x.index.toNat).kind)=1))else false))
 else
 bif (decide (x.deed=2))then
 bif (decide (x.deed=2))then
 aP (gB [((bif (decide (0<=x.index))then(decide (x.index<(p.ac.length:Int)))else false),true)]=true->(0:Int)<=x.index/\x.index<(p.ac.length:Int)) (
 some (bif (bif (decide (0<=x.index))then(decide (x.index<(p.ac.length:Int)))else false)then(!decide (((at' p.ac x.index.toNat).kind)=1))else false))
 else
 bif (decide (x.deed=3))then
 bif (decide (x.deed=3))then
 some (bif (decide (0<=x.index))then(decide (x.index<p.aw))else false)
 else
 bif (decide (x.deed=7))then
 bif (decide (x.deed=7))then
 some (bif (decide (0<=x.index))then(decide (x.index<(p.aa.length:Int)))else false)
 else
 aP (gB [((bif (decide (0<=x.index))then(decide (x.index<0))else false),true)]=true->(0:Int)<=x.index/\x.index<(p.ac.length:Int)) (
 some (bif (bif (decide (0<=x.index))then(decide (x.index<0))else false)then(!decide (((at' p.ac x.index.toNat).kind)=1))else false))
 else
 bif (decide (x.deed=8))then
 some (bif (decide (0<=x.index))then(decide (x.index<(p.aa.length:Int)))else false)
 else
 aP (gB [((bif (decide (0<=x.index))then(decide (x.index<0))else false),true)]=true->(0:Int)<=x.index/\x.index<(p.ac.length:Int)) (
 some (bif (bif (decide (0<=x.index))then(decide (x.index<0))else false)then(!decide (((at' p.ac x.index.toNat).kind)=1))else false))
 else
 bif (decide (x.deed=4))then
 some (bif (decide (0<=x.index))then(decide (x.index<p.aw))else false)
 else
 bif (decide (x.deed=7))then
 bif (decide (x.deed=7))then
 some (bif (decide (0<=x.index))then(decide (x.index<(p.aa.length:Int)))else false)
 else
 aP (gB [((bif (decide (0<=x.index))then(decide (x.index<0))else false),true)]=true->(0:Int)<=x.index/\x.index<(p.ac.length:Int)) (
 some (bif (bif (decide (0<=x.index))then(decide (x.index<0))else false)then(!decide (((at' p.ac x.index.toNat).kind)=1))else false))
 else
 bif (decide (x.deed=8))then
 some (bif (decide (0<=x.index))then(decide (x.index<(p.aa.length:Int)))else false)
 else
 aP (gB [((bif (decide (0<=x.index))then(decide (x.index<0))else false),true)]=true->(0:Int)<=x.index/\x.index<(p.ac.length:Int)) (
 some (bif (bif (decide (0<=x.index))then(decide (x.index<0))else false)then(!decide (((at' p.ac x.index.toNat).kind)=1))else false))
 else
 bif (decide (x.deed=5))then
 bif (decide (x.deed=5))then
 aP (gB [((bif (decide (0<=x.index))then(decide (x.index<(p.ac.length:Int)))else false),true)]=true->(0:Int)<=x.index/\x.index<(p.ac.length:Int)) (
 some (bif (bif (decide (0<=x.index))then(decide (x.index<(p.ac.length:Int)))else false)then(!decide (((at' p.ac x.index.toNat).kind)=1))else false))
 else
 bif (decide (x.deed=3))then
 bif (decide (x.deed=3))then
 some (bif (decide (0<=x.index))then(decide (x.index<p.aw))else false)
 else
 bif (decide (x.deed=7))then
 bif (decide (x.deed=7))then
 some (bif (decide (0<=x.index))then(decide (x.index<(p.aa.length:Int)))else false)
 else
 aP (gB [((bif (decide (0<=x.index))then(decide (x.index<0))else false),true)]=true->(0:Int)<=x.index/\x.index<(p.ac.length:Int)) (
 some (bif (bif (decide (0<=x.index))then(decide (x.index<0))else false)then(!decide (((at' p.ac x.index.toNat).kind)=1))else false))
 else
 bif (decide (x.deed=8))then
 some (bif (decide (0<=x.index))then(decide (x.index<(p.aa.length:Int)))else false)
 else
 aP (gB [((bif (decide (0<=x.index))then(decide (x.index<0))else false),true)]=true->(0:Int)<=x.index/\x.index<(p.ac.length:Int)) (
 some (bif (bif (decide (0<=x.index))then(decide (x.index<0))else false)then(!decide (((at' p.ac x.index.toNat).kind)=1))else false))
 else
 bif (decide (x.deed=4))then
 some (bif (decide (0<=x.index))then(decide (x.index<p.aw))else false)
 else
 bif (decide (x.deed=7))then
 bif (decide (x.deed=7))then
 some (bif (decide (0<=x.index))then(decide (x.index<(p.aa.length:Int)))else false)
 else
 aP (gB [((bif (decide (0<=x.index))then(decide (x.index<0))else false),true)]=true->(0:Int)<=x.index/\x.index<(p.ac.length:Int)) (
 some (bif (bif (decide (0<=x.index))then(decide (x.index<0))else false)then(!decide (((at' p.ac x.index.toNat).kind)=1))else false))
 else
 bif (decide (x.deed=8))then
 some (bif (decide (0<=x.index))then(decide (x.index<(p.aa.length:Int)))else false)
 else
 aP (gB [((bif (decide (0<=x.index))then(decide (x.index<0))else false),true)]=true->(0:Int)<=x.index/\x.index<(p.ac.length:Int)) (
 some (bif (bif (decide (0<=x.index))then(decide (x.index<0))else false)then(!decide (((at' p.ac x.index.toNat).kind)=1))else false))
 else
 bif (decide (x.deed=6))then
 aP (gB [((bif (decide (0<=x.index))then(decide (x.index<(p.ac.length:Int)))else false),true)]=true->(0:Int)<=x.index/\x.index<(p.ac.length:Int)) (
 some (bif (bif (decide (0<=x.index))then(decide (x.index<(p.ac.length:Int)))else false)then(!decide (((at' p.ac x.index.toNat).kind)=1))else false))
 else
 bif (decide (x.deed=3))then
 bif (decide (x.deed=3))then
 some (bif (decide (0<=x.index))then(decide (x.index<p.aw))else false)
 else
 bif (decide (x.deed=7))then
 bif (decide (x.deed=7))then
 some (bif (decide (0<=x.index))then(decide (x.index<(p.aa.length:Int)))else false)
 else
 aP (gB [((bif (decide (0<=x.index))then(decide (x.index<0))else false),true)]=true->(0:Int)<=x.index/\x.index<(p.ac.length:Int)) (
 some (bif (bif (decide (0<=x.index))then(decide (x.index<0))else false)then(!decide (((at' p.ac x.index.toNat).kind)=1))else false))
 else
 bif (decide (x.deed=8))then
 some (bif (decide (0<=x.index))then(decide (x.index<(p.aa.length:Int)))else false)
 else
 aP (gB [((bif (decide (0<=x.index))then(decide (x.index<0))else false),true)]=true->(0:Int)<=x.index/\x.index<(p.ac.length:Int)) (
 some (bif (bif (decide (0<=x.index))then(decide (x.index<0))else false)then(!decide (((at' p.ac x.index.toNat).kind)=1))else false))
 else
 bif (decide (x.deed=4))then
 some (bif (decide (0<=x.index))then(decide (x.index<p.aw))else false)
 else
 bif (decide (x.deed=7))then
 bif (decide (x.deed=7))then
 some (bif (decide (0<=x.index))then(decide (x.index<(p.aa.length:Int)))else false)
 else
 aP (gB [((bif (decide (0<=x.index))then(decide (x.index<0))else false),true)]=true->(0:Int)<=x.index/\x.index<(p.ac.length:Int)) (
 some (bif (bif (decide (0<=x.index))then(decide (x.index<0))else false)then(!decide (((at' p.ac x.index.toNat).kind)=1))else false))
 else
 bif (decide (x.deed=8))then
 some (bif (decide (0<=x.index))then(decide (x.index<(p.aa.length:Int)))else false)
 else
 aP (gB [((bif (decide (0<=x.index))then(decide (x.index<0))else false),true)]=true->(0:Int)<=x.index/\x.index<(p.ac.length:Int)) (
 some (bif (bif (decide (0<=x.index))then(decide (x.index<0))else false)then(!decide (((at' p.ac x.index.toNat).kind)=1))else false))
def oK (x:af) (x1:Int) (x11:List Source) (x12:List Link) (x13:List aY):Option Bool:=
 (mK (⟨x1,x11,x12,x13⟩:au) x).bind fun r_=>
 some (!r_)
def jF (s_:List af) (f_:Int) (f_1:List Source) (f_2:List Link) (f_3:List aY):Int->Option (bO Int (Ex Unit Int)):=
 fun t8=>
 bif (decide (t8<(s_.length:Int)))then
 (oK (at' s_ t8.toNat) f_ f_1 f_2 f_3).bind fun r_=>
 aP ((0:Int)<=t8/\t8<(s_.length:Int)) (
 bif r_ then
 some (.done (.ret t8))
 else
 some (.next (IntKind.wrap .i64 (t8+1))))
 else
 some (.done (.brk ()))
def lG (s_:List af) (f_:Int) (f_1:List Source) (f_2:List Link) (f_3:List aY):Option Int:=
 Option.bind (aH (jF s_ f_ f_1 f_2 f_3) FUEL (0)) fun o=>match o with
 | .ret v=>some v
 | .brk _=>
 some (-1)
def gM (s_:List af) (f_:Int) (f_1:List Source) (f_2:List Link) (f_3:List aY):Option Bool:=
 (lG s_ f_ f_1 f_2 f_3).bind fun r_=>
 some (decide (0<=r_))
def jT (l:List af) (x1:Int) (x11:List Source) (x12:List Link) (x13:List aY):Option Bool:=
 (bif gB [(decide ((l.length:Int)<=24),true)]then gM l x1 x11 x12 x13 else some default).bind fun r_=>
 some (bif (decide ((l.length:Int)<=24))then(!r_)else false)
def p8 (p:au) (t:Task):Option Bool:=
 (jY t.fed (p.a_.length:Int)).bind fun r_=>
 (bif gB [(r_,true)]then jY t.bj p.aw else some default).bind fun r_1=>
 (bif gB [((bif r_ then r_1 else false),true)]then jT t.ba p.aw p.aa p.ac p.a_ else some default).bind fun r_2=>
 (bif gB [((bif (bif r_ then r_1 else false)then r_2 else false),true)]then jT t.bk p.aw p.aa p.ac p.a_ else some default).bind fun r_3=>
 some (bif (bif (bif r_ then r_1 else false)then r_2 else false)then r_3 else false)
def kg (p:au) (s_:State):Option (Int × (List Source) × (List Link) × (List aY) × (List Bool) × (List Bool) × (List Bool) × (List Bool) × (List Bool) × (List Bool) × (List Bool)):=
 some (p.aw,p.aa,p.ac,p.a_,s_.am,s_.ar,s_.ap,s_.on_,s_.ae,s_.ag,s_.aq)
def eZ (g:bn):Int->Option (bO Int (Ex Unit Int)):=
 fun x1=>
 bif (!((bD bB x1 g.bp).isSome))then
 some (.done (.ret x1))
 else
 some (.next ((bD bB x1 g.bp).getD 0))
def dJ (g:bn) (x:Int):Option Int:=
 Option.bind (aH (eZ g) FUEL (x)) fun o=>match o with
 | .ret v=>some v
 | .brk _=>none
def jO (g:bn) (a:Int) (b:Int):Option (List (Int × Int)):=
 (dJ g a).bind fun r_=>
 (dJ g b).bind fun r_1=>
 bif (!decide (r_=r_1))then
 some (fH bB r_ r_1 g.bp)
 else
 some g.bp
def mO (x22:Int) (x221:Int) (x222:Int) (x223:Int) (x224:Int) (x225:List gT) (o_:bn):Option bn:=
 (jO o_ x22 x221).bind fun r_=>
 some (⟨r_⟩:bn)
def dW (x12:List Link) (x2:List Bool) (x22:List Bool) (x26:List Bool):((List (Int × Int)) × Int)->Option (bO ((List (Int × Int)) × Int) (Ex (List (Int × Int)) bn)):=
 fun zz=>match zz with
 |(o50,t9)=>
 bif (decide (t9<(x12.length:Int)))then
 aP ((0:Int)<=t9/\t9<(x12.length:Int)) (
 bif (bif (bif (bif (at' x2 t9.toNat)then(!(at' x22 t9.toNat))else false)then(!(at' x26 (((at' x12 t9.toNat).a).toNat)))else false)then(!(at' x26 (((at' x12 t9.toNat).b).toNat)))else false)then
 (mO ((at' x12 t9.toNat).a) ((at' x12 t9.toNat).b) ((at' x12 t9.toNat).kind) ((at' x12 t9.toNat).most) ((at' x12 t9.toNat).ohm) ((at' x12 t9.toNat).trip) (⟨o50⟩:bn)).bind fun r_=>
 aP (((0:Int)<=t9/\t9<(x2.length:Int))/\(gB [(at' x2 t9.toNat,true)]=true->(0:Int)<=t9/\t9<(x22.length:Int))/\(gB [((bif (at' x2 t9.toNat)then(!(at' x22 t9.toNat))else false),true)]=true->(0:Int)<=(at' x12 t9.toNat).a/\(at' x12 t9.toNat).a<(x26.length:Int))/\(gB [((bif (bif (at' x2 t9.toNat)then(!(at' x22 t9.toNat))else false)then(!(at' x26 (((at' x12 t9.toNat).a).toNat)))else false),true)]=true->(0:Int)<=(at' x12 t9.toNat).b/\(at' x12 t9.toNat).b<(x26.length:Int))) (
 some (.next (r_.bp,IntKind.wrap .i64 (t9+1))))
 else
 aP (((0:Int)<=t9/\t9<(x2.length:Int))/\(gB [(at' x2 t9.toNat,true)]=true->(0:Int)<=t9/\t9<(x22.length:Int))/\(gB [((bif (at' x2 t9.toNat)then(!(at' x22 t9.toNat))else false),true)]=true->(0:Int)<=(at' x12 t9.toNat).a/\(at' x12 t9.toNat).a<(x26.length:Int))/\(gB [((bif (bif (at' x2 t9.toNat)then(!(at' x22 t9.toNat))else false)then(!(at' x26 (((at' x12 t9.toNat).a).toNat)))else false),true)]=true->(0:Int)<=(at' x12 t9.toNat).b/\(at' x12 t9.toNat).b<(x26.length:Int))) (
 some (.next (o50,IntKind.wrap .i64 (t9+1)))))
 else
 some (.done (.brk o50))
def mo (x1:Int) (x11:List Source) (x12:List Link) (x13:List aY) (x2:List Bool) (x21:List Bool) (x22:List Bool) (x23:List Bool) (x24:List Bool) (x25:List Bool) (x26:List Bool) (o_:bn):Option bn:=
 Option.bind (aH (dW x12 x2 x22 x26) FUEL (o_.bp,0)) fun o=>match o with
 | .ret v=>some v
 | .brk o501=>
 some (⟨o501⟩:bn)
def bZ (p:au) (s_:State) (r_1:bn):((List aI) × (List (Int × Int)) × Int)->Option (bO ((List aI) × (List (Int × Int)) × Int) (Ex ((List aI) × (List (Int × Int))) (List aI))):=
 fun zz=>match zz with
 |(out,at_,t32)=>
 bif (decide (t32<p.aw))then
 aP ((0:Int)<=t32/\t32<(s_.aq.length:Int)) (
 bif (at' s_.aq t32.toNat)then
 some (.next (out,at_,IntKind.wrap .i64 (t32+1)))
 else
 (dJ r_1 t32).bind fun r_2=>
 bif (!((bD bB r_2 at_).isSome))then
 aP (((out.length+[(⟨([]:List Int),([]:List Int)⟩:aI)].length)*48<=140737488355328)/\(out.length+[(⟨([]:List Int),([]:List Int)⟩:aI)].length<=4611686018427387904)) (
 aP (((0:Int)<=((bD bB r_2 (fH bB r_2 (out.length:Int) at_)).getD 0)/\((bD bB r_2 (fH bB r_2 (out.length:Int) at_)).getD 0)<((out++[(⟨([]:List Int),([]:List Int)⟩:aI)]).length:Int))/\((((at' (out++[(⟨([]:List Int),([]:List Int)⟩:aI)]) (((bD bB r_2 (fH bB r_2 (out.length:Int) at_)).getD 0).toNat)).aw).length+[t32].length)*8<=140737488355328)/\(((at' (out++[(⟨([]:List Int),([]:List Int)⟩:aI)]) (((bD bB r_2 (fH bB r_2 (out.length:Int) at_)).getD 0).toNat)).aw).length+[t32].length<=4611686018427387904)) (
 some (.next ((out++[(⟨([]:List Int),([]:List Int)⟩:aI)]).set (((bD bB r_2 (fH bB r_2 (out.length:Int) at_)).getD 0).toNat) (⟨((at' (out++[(⟨([]:List Int),([]:List Int)⟩:aI)]) (((bD bB r_2 (fH bB r_2 (out.length:Int) at_)).getD 0).toNat)).aw)++[t32],(at' (out++[(⟨([]:List Int),([]:List Int)⟩:aI)]) (((bD bB r_2 (fH bB r_2 (out.length:Int) at_)).getD 0).toNat)).aa⟩:aI),fH bB r_2 (out.length:Int) at_,IntKind.wrap .i64 (t32+1)))))
 else
 aP (((0:Int)<=((bD bB r_2 at_).getD 0)/\((bD bB r_2 at_).getD 0)<(out.length:Int))/\((((at' out (((bD bB r_2 at_).getD 0).toNat)).aw).length+[t32].length)*8<=140737488355328)/\(((at' out (((bD bB r_2 at_).getD 0).toNat)).aw).length+[t32].length<=4611686018427387904)) (
 some (.next (out.set (((bD bB r_2 at_).getD 0).toNat) (⟨((at' out (((bD bB r_2 at_).getD 0).toNat)).aw)++[t32],(at' out (((bD bB r_2 at_).getD 0).toNat)).aa⟩:aI),at_,IntKind.wrap .i64 (t32+1)))))
 else
 some (.done (.brk (out,at_)))
def bY (p:au) (s_:State) (r_1:bn) (at_1:List (Int × Int)):((List aI) × Int)->Option (bO ((List aI) × Int) (Ex (List aI) (List aI))):=
 fun zz=>match zz with
 |(out2,t78)=>
 bif (decide (t78<(p.aa.length:Int)))then
 aP ((0:Int)<=t78/\t78<(p.aa.length:Int)) (
 aP (((0:Int)<=t78/\t78<(s_.on_.length:Int))/\(gB [(at' s_.on_ t78.toNat,true)]=true->(0:Int)<=t78/\t78<(s_.ae.length:Int))/\(gB [((bif (at' s_.on_ t78.toNat)then(!(at' s_.ae t78.toNat))else false),true)]=true->(0:Int)<=(at' p.aa t78.toNat).bus/\(at' p.aa t78.toNat).bus<(s_.aq.length:Int))) (
 bif (bif (bif (at' s_.on_ t78.toNat)then(!(at' s_.ae t78.toNat))else false)then(!(at' s_.aq (((at' p.aa t78.toNat).bus).toNat)))else false)then
 (dJ r_1 ((at' p.aa t78.toNat).bus)).bind fun r_3=>
 aP (((0:Int)<=((bD bB r_3 at_1).getD 0)/\((bD bB r_3 at_1).getD 0)<(out2.length:Int))/\((((at' out2 (((bD bB r_3 at_1).getD 0).toNat)).aa).length+[t78].length)*8<=140737488355328)/\(((at' out2 (((bD bB r_3 at_1).getD 0).toNat)).aa).length+[t78].length<=4611686018427387904)) (
 some (.next (out2.set (((bD bB r_3 at_1).getD 0).toNat) (⟨(at' out2 (((bD bB r_3 at_1).getD 0).toNat)).aw,((at' out2 (((bD bB r_3 at_1).getD 0).toNat)).aa)++[t78]⟩:aI),IntKind.wrap .i64 (t78+1))))
 else
 some (.next (out2,IntKind.wrap .i64 (t78+1)))))
 else
 some (.done (.brk out2))
def fJ (p:au) (s_:State):Option (List aI):=
 (kg p s_).bind fun r_=>
 (mo r_.1 r_.2.1 r_.2.2.1 r_.2.2.2.1 r_.2.2.2.2.1 r_.2.2.2.2.2.1 r_.2.2.2.2.2.2.1 r_.2.2.2.2.2.2.2.1 r_.2.2.2.2.2.2.2.2.1 r_.2.2.2.2.2.2.2.2.2.1 r_.2.2.2.2.2.2.2.2.2.2 (⟨([]:(List (Int × Int)))⟩:bn)).bind fun r_1=>
 Option.bind (aH (bZ p s_ r_1) FUEL (([]:List aI),([]:(List (Int × Int))),0)) fun o=>match o with
 | .ret v=>some v
 | .brk (out1,at_1)=>
 Option.bind (aH (bY p s_ r_1 at_1) FUEL (out1,0)) fun o=>match o with
 | .ret v=>some v
 | .brk out3=>
 some out3
def kW (r_1:List aI) (t25:Int):((List Bool) × Int)->Option (bO ((List Bool) × Int) (Ex (List Bool) (bO ((List Bool) × Int) (Ex (List Bool) ((List Bool) × Int))))):=
 fun zz=>match zz with
 |(out2,t32)=>
 bif (decide (t32<(((at' r_1 t25.toNat).aw).length:Int)))then
 aP ((0:Int)<=t32/\t32<(((at' r_1 t25.toNat).aw).length:Int)) (
 aP ((0:Int)<=(at' ((at' r_1 t25.toNat).aw) t32.toNat)/\(at' ((at' r_1 t25.toNat).aw) t32.toNat)<(out2.length:Int)) (
 some (.next (out2.set ((at' ((at' r_1 t25.toNat).aw) t32.toNat).toNat) (decide (0<(((at' r_1 t25.toNat).aa).length:Int))),IntKind.wrap .i64 (t32+1)))))
 else
 some (.done (.brk out2))
def kS (r_1:List aI):((List Bool) × Int)->Option (bO ((List Bool) × Int) (Ex (List Bool) ((List Bool) × Int))):=
 fun zz=>match zz with
 |(out,t25)=>
 bif (decide (t25<(r_1.length:Int)))then
 aP ((0:Int)<=t25/\t25<(r_1.length:Int)) (
 Option.bind (aH (kW r_1 t25) FUEL (out,0)) fun o=>match o with
 | .ret v=>some v
 | .brk out3=>
 some (.next (out3,IntKind.wrap .i64 (t25+1))))
 else
 some (.done (.brk out))
def gG (p:au) (s_:State):Option ((List Bool) × Int):=
 (dZ p s_).bind fun r_=>
 bif (!decide (r_=0))then
 some (([]:List Bool),r_)
 else
 aP (((0:Int)<=p.aw)/\((1:Int)*p.aw<=281474976710656)/\((p.aw:Int)<=9223372036854775807)) (
 (fJ p s_).bind fun r_1=>
 Option.bind (aH (kS r_1) FUEL (List.replicate p.aw.toNat (false:Bool),0)) fun o=>match o with
 | .ret v=>some v
 | .brk out1=>
 some (out1,0))
def jZ (p:au) (r_:(List Bool) × Int):((List bA) × Int)->Option (bO ((List bA) × Int) (Ex (List bA) ((List bA) × Int))):=
 fun zz=>match zz with
 |(out,t26)=>
 bif (decide (t26<(p.a_.length:Int)))then
 aP ((0:Int)<=t26/\t26<(p.a_.length:Int)) (
 aP (gB [(decide (0<=(((at' p.a_ t26.toNat).bh).e0)),true)]=true->(0:Int)<=((at' p.a_ t26.toNat).bh).e0/\((at' p.a_ t26.toNat).bh).e0<(r_.1.length:Int)) (
 aP (gB [(decide (0<=(((at' p.a_ t26.toNat).bh).e1)),true)]=true->(0:Int)<=((at' p.a_ t26.toNat).bh).e1/\((at' p.a_ t26.toNat).bh).e1<(r_.1.length:Int)) (
 aP (((out.length+[(⟨(bif (decide (0<=(((at' p.a_ t26.toNat).bh).e0)))then(at' r_.1 ((((at' p.a_ t26.toNat).bh).e0).toNat))else false),(bif (decide (0<=(((at' p.a_ t26.toNat).bh).e1)))then(at' r_.1 ((((at' p.a_ t26.toNat).bh).e1).toNat))else false)⟩:bA)].length)*2<=140737488355328)/\(out.length+[(⟨(bif (decide (0<=(((at' p.a_ t26.toNat).bh).e0)))then(at' r_.1 ((((at' p.a_ t26.toNat).bh).e0).toNat))else false),(bif (decide (0<=(((at' p.a_ t26.toNat).bh).e1)))then(at' r_.1 ((((at' p.a_ t26.toNat).bh).e1).toNat))else false)⟩:bA)].length<=4611686018427387904)) (
 some (.next (out++[(⟨(bif (decide (0<=(((at' p.a_ t26.toNat).bh).e0)))then(at' r_.1 ((((at' p.a_ t26.toNat).bh).e0).toNat))else false),(bif (decide (0<=(((at' p.a_ t26.toNat).bh).e1)))then(at' r_.1 ((((at' p.a_ t26.toNat).bh).e1).toNat))else false)⟩:bA)],IntKind.wrap .i64 (t26+1)))))))
 else
 some (.done (.brk out))
def vC (p:au) (s_:State):Option ((List bA) × Int):=
 (gG p s_).bind fun r_=>
 bif (!decide (r_.2=0))then
 some (([]:List bA),r_.2)
 else
 Option.bind (aH (jZ p r_) FUEL (([]:List bA),0)) fun o=>match o with
 | .ret v=>some v
 | .brk out1=>
 some (out1,0)
def bV (x y:aB):Int:=if x.e0<y.e0 then -1 else if y.e0<x.e0 then 1 else if x.e1<y.e1 then -1 else if y.e1<x.e1 then 1 else 0
def jA (s:List aB):Option (List aB):=match s with
 |[]=>some []
 |x::xs=>bif decide ((x::xs).length<4611686018427387904)then some ((x::xs).mergeSort fun x y=> !decide (bV y x<0))else none
def kN (p:au) (r_1:List aI) (t24:Int) (t31:Int):((List aB) × Int)->Option (bO ((List aB) × Int) (Ex (List aB) (bO ((List aB) × Int) (Ex (List aB) (bO ((List aB) × Int) (Ex (List aB) ((List aB) × Int))))))):=
 fun zz=>match zz with
 |(out4,t42)=>
 bif (decide (t42<(((((at' r_1 t24.toNat).aa).length - ((IntKind.wrap .i64 (t31+1)).toNat)):Nat):Int)))then
 aP ((0:Int)<=t42/\t42<((((at' r_1 t24.toNat).aa).drop ((IntKind.wrap .i64 (t31+1)).toNat)).length:Int)) (
 aP (((0:Int)<=(at' ((at' r_1 t24.toNat).aa) t31.toNat)/\(at' ((at' r_1 t24.toNat).aa) t31.toNat)<(p.aa.length:Int))/\(gB [(decide (((at' p.aa ((at' ((at' r_1 t24.toNat).aa) t31.toNat).toNat)).bs)=0),false)]=true->(0:Int)<=(at' ((at' r_1 t24.toNat).aa) t31.toNat)/\(at' ((at' r_1 t24.toNat).aa) t31.toNat)<(p.aa.length:Int))/\(gB [(decide (((at' p.aa ((at' ((at' r_1 t24.toNat).aa) t31.toNat).toNat)).bs)=0),false)]=true->(0:Int)<=(at' (((at' r_1 t24.toNat).aa).drop ((IntKind.wrap .i64 (t31+1)).toNat)) t42.toNat)/\(at' (((at' r_1 t24.toNat).aa).drop ((IntKind.wrap .i64 (t31+1)).toNat)) t42.toNat)<(p.aa.length:Int))) (
 bif (bif (decide (((at' p.aa ((at' ((at' r_1 t24.toNat).aa) t31.toNat).toNat)).bs)=0))then true else(!decide (((at' p.aa ((at' ((at' r_1 t24.toNat).aa) t31.toNat).toNat)).bs)=((at' p.aa ((at' (((at' r_1 t24.toNat).aa).drop ((IntKind.wrap .i64 (t31+1)).toNat)) t42.toNat).toNat)).bs))))then
 aP (((out4.length+[(⟨at' ((at' r_1 t24.toNat).aa) t31.toNat,at' (((at' r_1 t24.toNat).aa).drop ((IntKind.wrap .i64 (t31+1)).toNat)) t42.toNat⟩:aB)].length)*16<=140737488355328)/\(out4.length+[(⟨at' ((at' r_1 t24.toNat).aa) t31.toNat,at' (((at' r_1 t24.toNat).aa).drop ((IntKind.wrap .i64 (t31+1)).toNat)) t42.toNat⟩:aB)].length<=4611686018427387904)) (
 some (.next (out4++[(⟨at' ((at' r_1 t24.toNat).aa) t31.toNat,at' (((at' r_1 t24.toNat).aa).drop ((IntKind.wrap .i64 (t31+1)).toNat)) t42.toNat⟩:aB)],IntKind.wrap .i64 (t42+1))))
 else
 some (.next (out4,IntKind.wrap .i64 (t42+1)))))
 else
 some (.done (.brk out4))
def kC (p:au) (r_1:List aI) (t24:Int):((List aB) × Int)->Option (bO ((List aB) × Int) (Ex (List aB) (bO ((List aB) × Int) (Ex (List aB) ((List aB) × Int))))):=
 fun zz=>match zz with
 |(out2,t31)=>
 bif (decide (t31<(((at' r_1 t24.toNat).aa).length:Int)))then
 aP ((0:Int)<=t31/\t31<(((at' r_1 t24.toNat).aa).length:Int)) (
 aP ((0:Int)<=(IntKind.wrap .i64 (t31+1))/\(IntKind.wrap .i64 (t31+1))<=(((at' r_1 t24.toNat).aa).length:Int)) (
 Option.bind (aH (kN p r_1 t24 t31) FUEL (out2,0)) fun o=>match o with
 | .ret v=>some v
 | .brk out5=>
 some (.next (out5,IntKind.wrap .i64 (t31+1)))))
 else
 some (.done (.brk out2))
def iK (p:au) (r_1:List aI):((List aB) × Int)->Option (bO ((List aB) × Int) (Ex (List aB) ((List aB) × Int))):=
 fun zz=>match zz with
 |(out,t24)=>
 bif (decide (t24<(r_1.length:Int)))then
 aP ((0:Int)<=t24/\t24<(r_1.length:Int)) (
 Option.bind (aH (kC p r_1 t24) FUEL (out,0)) fun o=>match o with
 | .ret v=>some v
 | .brk out3=>
 some (.next (out3,IntKind.wrap .i64 (t24+1))))
 else
 some (.done (.brk out))
def oq (p:au) (s_:State):Option ((List aB) × Int):=
 (dZ p s_).bind fun r_=>
 bif (!decide (r_=0))then
 some (([]:List aB),r_)
 else
 (fJ p s_).bind fun r_1=>
 Option.bind (aH (iK p r_1) FUEL (([]:List aB),0)) fun o=>match o with
 | .ret v=>some v
 | .brk out1=>
 (jA out1).bind fun r_2=>
 aP (out1.length=r_2.length) (
 some (r_2,0))
def ru (r_:Int) (x1:List bA):Option Bool:=
 aP (((0:Int)<=r_/\r_<(x1.length:Int))/\(gB [(!((at' x1 r_.toNat).e0),true)]=true->(0:Int)<=r_/\r_<(x1.length:Int))) (
 some (bif (!((at' x1 r_.toNat).e0))then(!((at' x1 r_.toNat).e1))else false))
def iB (s_:List Int) (f_:List bA):Int->Option (bO Int (Ex Unit Int)):=
 fun t8=>
 bif (decide (t8<(s_.length:Int)))then
 (ru (at' s_ t8.toNat) f_).bind fun r_=>
 aP ((0:Int)<=t8/\t8<(s_.length:Int)) (
 bif r_ then
 some (.done (.ret t8))
 else
 some (.next (IntKind.wrap .i64 (t8+1))))
 else
 some (.done (.brk ()))
def jI (s_:List Int) (f_:List bA):Option Int:=
 Option.bind (aH (iB s_ f_) FUEL (0)) fun o=>match o with
 | .ret v=>some v
 | .brk _=>
 some (-1)
def fD (s_:List Int) (f_:List bA):Option Bool:=
 (jI s_ f_).bind fun r_=>
 some (decide (0<=r_))
def qc (s_:List Int) (v_:Int):Int->Option (bO Int (Ex Unit Int)):=
 fun t8=>
 bif (decide (t8<(s_.length:Int)))then
 aP ((0:Int)<=t8/\t8<(s_.length:Int)) (
 bif (decide (v_=(at' s_ t8.toNat)))then
 some (.done (.ret t8))
 else
 some (.next (IntKind.wrap .i64 (t8+1))))
 else
 some (.done (.brk ()))
def uL (s_:List Int) (v_:Int):Option Int:=
 Option.bind (aH (qc s_ v_) FUEL (0)) fun o=>match o with
 | .ret v=>some v
 | .brk _=>
 some (-1)
def jl (s_:List Int) (v_:Int):Option Bool:=
 (uL s_ v_).bind fun r_=>
 some (decide (0<=r_))
def rF (p:au) (s_:State) (b:Int):Int->Option (bO Int (Ex Unit Bool)):=
 fun t22=>
 bif (decide (t22<(p.aa.length:Int)))then
 aP ((0:Int)<=t22/\t22<(p.aa.length:Int)) (
 aP (gB [(decide (((at' p.aa t22.toNat).bus)=b),true)]=true->(0:Int)<=t22/\t22<(s_.on_.length:Int)) (
 bif (bif (decide (((at' p.aa t22.toNat).bus)=b))then(at' s_.on_ t22.toNat)else false)then
 some (.done (.ret false))
 else
 some (.next (IntKind.wrap .i64 (t22+1)))))
 else
 some (.done (.brk ()))
def rC (p:au) (s_:State) (t:Task) (b:Int):Int->Option (bO Int (Ex Unit Bool)):=
 fun t42=>
 bif (decide (t42<(p.ac.length:Int)))then
 aP ((0:Int)<=t42/\t42<(p.ac.length:Int)) (
 (bif gB [((bif (!decide (((at' p.ac t42.toNat).a)=b))then(!decide (((at' p.ac t42.toNat).b)=b))else false),false)]then jl t.bj (IntKind.wrap .i64 ((IntKind.wrap .i64 (((at' p.ac t42.toNat).a)+((at' p.ac t42.toNat).b))) - b))else some default).bind fun r_=>
 bif (bif (bif (!decide (((at' p.ac t42.toNat).a)=b))then(!decide (((at' p.ac t42.toNat).b)=b))else false)then true else r_)then
 some (.next (IntKind.wrap .i64 (t42+1)))
 else
 aP ((gB [(decide (((at' p.ac t42.toNat).kind)=1),false)]=true->(0:Int)<=t42/\t42<(s_.am.length:Int))/\(gB [((bif (decide (((at' p.ac t42.toNat).kind)=1))then true else(at' s_.am t42.toNat)),false)]=true->(0:Int)<=t42/\t42<(s_.ar.length:Int))) (
 bif (bif (bif (decide (((at' p.ac t42.toNat).kind)=1))then true else(at' s_.am t42.toNat))then true else(!(at' s_.ar t42.toNat)))then
 some (.done (.ret false))
 else
 some (.next (IntKind.wrap .i64 (t42+1)))))
 else
 some (.done (.brk ()))
def rZ (p:au) (s_:State) (t:Task) (b:Int):Option Bool:=
 aP ((0:Int)<=b/\b<(s_.ag.length:Int)) (
 bif (!(at' s_.ag b.toNat))then
 some false
 else
 Option.bind (aH (rF p s_ b) FUEL (0)) fun o=>match o with
 | .ret v=>some v
 | .brk _=>
 Option.bind (aH (rC p s_ t b) FUEL (0)) fun o=>match o with
 | .ret v=>some v
 | .brk _=>
 some true)
def rG (b:Int) (x1:Int) (x11:List Source) (x12:List Link) (x13:List aY) (x2:List Bool) (x21:List Bool) (x22:List Bool) (x23:List Bool) (x24:List Bool) (x25:List Bool) (x26:List Bool) (x3:List Int) (x31:List Int) (x32:List af) (x33:List af):Option Bool:=
 (rZ (⟨x1,x11,x12,x13⟩:au) (⟨x2,x21,x22,x23,x24,x25,x26⟩:State) (⟨x3,x31,x32,x33⟩:Task) b).bind fun r_=>
 some (!r_)
def iy (s_:List Int) (f_:Int) (f_1:List Source) (f_2:List Link) (f_3:List aY) (f_4:List Bool) (f_5:List Bool) (f_6:List Bool) (f_7:List Bool) (f_8:List Bool) (f_9:List Bool) (f_10:List Bool) (f_11:List Int) (f_12:List Int) (f_13:List af) (f_14:List af):Int->Option (bO Int (Ex Unit Int)):=
 fun t8=>
 bif (decide (t8<(s_.length:Int)))then
 (rG (at' s_ t8.toNat) f_ f_1 f_2 f_3 f_4 f_5 f_6 f_7 f_8 f_9 f_10 f_11 f_12 f_13 f_14).bind fun r_=>
 aP ((0:Int)<=t8/\t8<(s_.length:Int)) (
 bif r_ then
 some (.done (.ret t8))
 else
 some (.next (IntKind.wrap .i64 (t8+1))))
 else
 some (.done (.brk ()))
def jE (s_:List Int) (f_:Int) (f_1:List Source) (f_2:List Link) (f_3:List aY) (f_4:List Bool) (f_5:List Bool) (f_6:List Bool) (f_7:List Bool) (f_8:List Bool) (f_9:List Bool) (f_10:List Bool) (f_11:List Int) (f_12:List Int) (f_13:List af) (f_14:List af):Option Int:=
 Option.bind (aH (iy s_ f_ f_1 f_2 f_3 f_4 f_5 f_6 f_7 f_8 f_9 f_10 f_11 f_12 f_13 f_14) FUEL (0)) fun o=>match o with
 | .ret v=>some v
 | .brk _=>
 some (-1)
def fB (s_:List Int) (f_:Int) (f_1:List Source) (f_2:List Link) (f_3:List aY) (f_4:List Bool) (f_5:List Bool) (f_6:List Bool) (f_7:List Bool) (f_8:List Bool) (f_9:List Bool) (f_10:List Bool) (f_11:List Int) (f_12:List Int) (f_13:List af) (f_14:List af):Option Bool:=
 (jE s_ f_ f_1 f_2 f_3 f_4 f_5 f_6 f_7 f_8 f_9 f_10 f_11 f_12 f_13 f_14).bind fun r_=>
 some (decide (0<=r_))
def nJ (s_:State) (r_:(List Bool) × Int):Int->Option (bO Int (Ex Unit Int)):=
 fun t23=>
 bif (decide (t23<(r_.1.length:Int)))then
 aP ((0:Int)<=t23/\t23<(r_.1.length:Int)) (
 aP (gB [(at' r_.1 t23.toNat,true)]=true->(0:Int)<=t23/\t23<(s_.ag.length:Int)) (
 bif (bif (at' r_.1 t23.toNat)then(at' s_.ag t23.toNat)else false)then
 some (.done (.ret 40))
 else
 some (.next (IntKind.wrap .i64 (t23+1)))))
 else
 some (.done (.brk ()))
def nR (p:au) (s_:State) (t:Task):Option Int:=
 (gG p s_).bind fun r_=>
 Option.bind (aH (nJ s_ r_) FUEL (0)) fun o=>match o with
 | .ret v=>some v
 | .brk _=>
 (oq p s_).bind fun r_1=>
 bif (decide (0<(r_1.1.length:Int)))then
 some 41
 else
 (vC p s_).bind fun r_2=>
 (fD t.fed r_2.1).bind fun r_3=>
 bif r_3 then
 some 42
 else
 (fB t.bj p.aw p.aa p.ac p.a_ s_.am s_.ar s_.ap s_.on_ s_.ae s_.ag s_.aq t.fed t.bj t.ba t.bk).bind fun r_4=>
 bif r_4 then
 some 45
 else
 some 0
def bG (p:au) (s_:State) (t:Task):Option Int:=
 (dZ p s_).bind fun r_=>
 bif (!decide (r_=0))then
 some r_
 else
 (p8 p t).bind fun r_1=>
 bif (!r_1)then
 some 1
 else
 (nR p s_ t).bind fun r_2=>
 some r_2
def ou (x:Link):Int->Option (bO Int (Ex Unit Bool)):=
 fun i=>
 bif (decide (i<(x.trip.length:Int)))then
 aP ((0:Int)<=i/\i<(x.trip.length:Int)) (
 bif (bif (bif (bif (decide (((at' x.trip i.toNat).amps)<1))then true else(decide (1000000<((at' x.trip i.toNat).amps))))then true else(decide (((at' x.trip i.toNat).bm)<1)))then true else(decide (100000<((at' x.trip i.toNat).bm))))then
 some (.done (.ret false))
 else
 aP ((gB [(decide (0<i),true)]=true->(0:Int)<=(IntKind.wrap .i64 (i - 1))/\(IntKind.wrap .i64 (i - 1))<(x.trip.length:Int))/\(gB [(decide (((at' x.trip i.toNat).amps)<=((at' x.trip ((IntKind.wrap .i64 (i - 1)).toNat)).amps)),false),(decide (0<i),true)]=true->(0:Int)<=(IntKind.wrap .i64 (i - 1))/\(IntKind.wrap .i64 (i - 1))<(x.trip.length:Int))) (
 bif (bif (decide (0<i))then(bif (decide (((at' x.trip i.toNat).amps)<=((at' x.trip ((IntKind.wrap .i64 (i - 1)).toNat)).amps)))then true else(decide (((at' x.trip ((IntKind.wrap .i64 (i - 1)).toNat)).bm)<=((at' x.trip i.toNat).bm))))else false)then
 some (.done (.ret false))
 else
 some (.next (IntKind.wrap .i64 (i+1)))))
 else
 some (.done (.brk ()))
def su (p:au) (x:Link):Option Bool:=
 bif (bif (bif (bif (bif (bif (bif (bif (bif (bif (bif (decide (x.a<0))then true else(decide (p.aw<=x.a)))then true else(decide (x.b<0)))then true else(decide (p.aw<=x.b)))then true else(decide (x.a=x.b)))then true else(decide (x.kind<1)))then true else(decide (3<x.kind)))then true else(decide (x.most<1)))then true else(decide (100000<x.most)))then true else(decide (x.ohm<10)))then true else(decide (100000<x.ohm)))then
 some false
 else
 bif (bif (decide (6<(x.trip.length:Int)))then true else(bif (decide (0<(x.trip.length:Int)))then(!decide (x.kind=3))else false))then
 some false
 else
 Option.bind (aH (ou x) FUEL (0)) fun o=>match o with
 | .ret v=>some v
 | .brk _=>
 some true
def nE (p:au):Int->Option (bO Int (Ex Unit Int)):=
 fun i=>
 bif (decide (i<(p.aa.length:Int)))then
 aP ((0:Int)<=i/\i<(p.aa.length:Int)) (
 bif (bif (bif (bif (bif (bif (bif (bif (bif (bif (decide (((at' p.aa i.toNat).bus)<0))then true else(decide (p.aw<=((at' p.aa i.toNat).bus))))then true else(decide (((at' p.aa i.toNat).kind)<1)))then true else(decide (3<((at' p.aa i.toNat).kind))))then true else(decide (((at' p.aa i.toNat).power)<1)))then true else(decide (100000<((at' p.aa i.toNat).power))))then true else(decide (((at' p.aa i.toNat).bs)<0)))then true else(decide (8<((at' p.aa i.toNat).bs))))then true else(decide (((at' p.aa i.toNat).ohm)<10)))then true else(decide (100000<((at' p.aa i.toNat).ohm))))then
 some (.done (.ret 11))
 else
 some (.next (IntKind.wrap .i64 (i+1))))
 else
 some (.done (.brk ()))
def ni (p:au):Int->Option (bO Int (Ex Unit Int)):=
 fun i1=>
 bif (decide (i1<(p.ac.length:Int)))then
 (su p (at' p.ac i1.toNat)).bind fun r_=>
 aP ((0:Int)<=i1/\i1<(p.ac.length:Int)) (
 bif (!r_)then
 some (.done (.ret 12))
 else
 some (.next (IntKind.wrap .i64 (i1+1))))
 else
 some (.done (.brk ()))
def nD (p:au):Int->Option (bO Int (Ex Unit Int)):=
 fun i2=>
 bif (decide (i2<(p.a_.length:Int)))then
 aP ((0:Int)<=i2/\i2<(p.a_.length:Int)) (
 bif (decide ((((at' p.a_ i2.toNat).bh).e1)=(-1)))then
 bif (bif (bif (bif (bif (bif (bif (bif (bif (decide ((((at' p.a_ i2.toNat).bh).e0)<0))then true else(decide (p.aw<=(((at' p.a_ i2.toNat).bh).e0))))then true else(decide ((((at' p.a_ i2.toNat).bh).e1)<(-1))))then true else(decide (p.aw<=(((at' p.a_ i2.toNat).bh).e1))))then true else(decide ((((at' p.a_ i2.toNat).bh).e0)=(((at' p.a_ i2.toNat).bh).e1))))then true else(decide (((at' p.a_ i2.toNat).power)<1)))then true else(decide (100000<((at' p.a_ i2.toNat).power))))then true else(decide (((at' p.a_ i2.toNat).paths)<0)))then true else(decide (1<((at' p.a_ i2.toNat).paths))))then
 some (.done (.ret 13))
 else
 some (.next (IntKind.wrap .i64 (i2+1)))
 else
 bif (bif (bif (bif (bif (bif (bif (bif (bif (decide ((((at' p.a_ i2.toNat).bh).e0)<0))then true else(decide (p.aw<=(((at' p.a_ i2.toNat).bh).e0))))then true else(decide ((((at' p.a_ i2.toNat).bh).e1)<(-1))))then true else(decide (p.aw<=(((at' p.a_ i2.toNat).bh).e1))))then true else(decide ((((at' p.a_ i2.toNat).bh).e0)=(((at' p.a_ i2.toNat).bh).e1))))then true else(decide (((at' p.a_ i2.toNat).power)<1)))then true else(decide (100000<((at' p.a_ i2.toNat).power))))then true else(decide (((at' p.a_ i2.toNat).paths)<0)))then true else(decide (2<((at' p.a_ i2.toNat).paths))))then
 some (.done (.ret 13))
 else
 some (.next (IntKind.wrap .i64 (i2+1))))
 else
 some (.done (.brk ()))
def qI (p:au):Option Int:=
 bif (bif (decide (p.aw<1))then true else(decide (24<p.aw)))then
 some 10
 else
 bif (decide (8<(p.aa.length:Int)))then
 some 11
 else
 Option.bind (aH (nE p) FUEL (0)) fun o=>match o with
 | .ret v=>some v
 | .brk _=>
 bif (decide (40<(p.ac.length:Int)))then
 some 12
 else
 Option.bind (aH (ni p) FUEL (0)) fun o=>match o with
 | .ret v=>some v
 | .brk _=>
 bif (decide (24<(p.a_.length:Int)))then
 some 13
 else
 Option.bind (aH (nD p) FUEL (0)) fun o=>match o with
 | .ret v=>some v
 | .brk _=>
 some 0
def nG (p:au) (s_:State):Int->Option (bO Int (Ex Unit Bool)):=
 fun i=>
 bif (decide (i<(p.ac.length:Int)))then
 aP (((0:Int)<=i/\i<(p.ac.length:Int))/\(gB [(decide (((at' p.ac i.toNat).kind)=1),true)]=true->(0:Int)<=i/\i<(s_.am.length:Int))/\(gB [(!(at' s_.am i.toNat),false),(decide (((at' p.ac i.toNat).kind)=1),true)]=true->(0:Int)<=i/\i<(s_.ar.length:Int))) (
 bif (bif (decide (((at' p.ac i.toNat).kind)=1))then(bif (!(at' s_.am i.toNat))then true else(at' s_.ar i.toNat))else false)then
 some (.done (.ret false))
 else
 some (.next (IntKind.wrap .i64 (i+1))))
 else
 some (.done (.brk ()))
def qM (p:au) (s_:State):Option Bool:=
 bif (bif (bif (bif (bif (bif (bif (!decide ((s_.am.length:Int)=(p.ac.length:Int)))then true else(!decide ((s_.ar.length:Int)=(p.ac.length:Int))))then true else(!decide ((s_.ap.length:Int)=(p.ac.length:Int))))then true else(!decide ((s_.on_.length:Int)=(p.aa.length:Int))))then true else(!decide ((s_.ae.length:Int)=(p.aa.length:Int))))then true else(!decide ((s_.ag.length:Int)=p.aw)))then true else(!decide ((s_.aq.length:Int)=p.aw)))then
 some false
 else
 Option.bind (aH (nG p s_) FUEL (0)) fun o=>match o with
 | .ret v=>some v
 | .brk _=>
 some true
def eX (p:au) (s_:State):Option Int:=
 (qI p).bind fun r_=>
 (bif gB [(decide (r_=0),true)]then qM p s_ else some default).bind fun r_1=>
 bif (bif (decide (r_=0))then(!r_1)else false)then
 some 9
 else
 some r_
def oN (l:List Int) (n:Int):Int->Option (bO Int (Ex Unit Bool)):=
 fun i=>
 bif (decide (i<(l.length:Int)))then
 aP (((0:Int)<=i/\i<(l.length:Int))/\(gB [(decide ((at' l i.toNat)<0),false)]=true->(0:Int)<=i/\i<(l.length:Int))) (
 bif (bif (decide ((at' l i.toNat)<0))then true else(decide (n<=(at' l i.toNat))))then
 some (.done (.ret false))
 else
 some (.next (IntKind.wrap .i64 (i+1))))
 else
 some (.done (.brk ()))
def kU (l:List Int) (n:Int):Option Bool:=
 Option.bind (aH (oN l n) FUEL (0)) fun o=>match o with
 | .ret v=>some v
 | .brk _=>
 some (decide ((l.length:Int)<=24))
def mG (p:au) (x:af):Option Bool:=
 bif (decide (x.index<0))then
 some false
 else
 bif (decide (x.deed=1))then
 bif (decide (x.deed=1))then
 aP (gB [(decide (x.index<(p.ac.length:Int)),true)]=true->(0:Int)<=x.index/\x.index<(p.ac.length:Int)) (
 some (bif (decide (x.index<(p.ac.length:Int)))then(!decide (((at' p.ac x.index.toNat).kind)=1))else false))
 else
 bif (decide (x.deed=3))then
 bif (decide (x.deed=3))then
 some (decide (x.index<p.aw))
 else
 bif (decide (x.deed=7))then
 bif (decide (x.deed=7))then
 some (decide (x.index<(p.aa.length:Int)))
 else
 some false
 else
 bif (decide (x.deed=8))then
 some (decide (x.index<(p.aa.length:Int)))
 else
 some false
 else
 bif (decide (x.deed=4))then
 some (decide (x.index<p.aw))
 else
 bif (decide (x.deed=7))then
 bif (decide (x.deed=7))then
 some (decide (x.index<(p.aa.length:Int)))
 else
 some false
 else
 bif (decide (x.deed=8))then
 some (decide (x.index<(p.aa.length:Int)))
 else
 some false
 else
 bif (decide (x.deed=2))then
 bif (decide (x.deed=2))then
 aP (gB [(decide (x.index<(p.ac.length:Int)),true)]=true->(0:Int)<=x.index/\x.index<(p.ac.length:Int)) (
 some (bif (decide (x.index<(p.ac.length:Int)))then(!decide (((at' p.ac x.index.toNat).kind)=1))else false))
 else
 bif (decide (x.deed=3))then
 bif (decide (x.deed=3))then
 some (decide (x.index<p.aw))
 else
 bif (decide (x.deed=7))then
 bif (decide (x.deed=7))then
 some (decide (x.index<(p.aa.length:Int)))
 else
 some false
 else
 bif (decide (x.deed=8))then
 some (decide (x.index<(p.aa.length:Int)))
 else
 some false
 else
 bif (decide (x.deed=4))then
 some (decide (x.index<p.aw))
 else
 bif (decide (x.deed=7))then
 bif (decide (x.deed=7))then
 some (decide (x.index<(p.aa.length:Int)))
 else
 some false
 else
 bif (decide (x.deed=8))then
 some (decide (x.index<(p.aa.length:Int)))
 else
 some false
 else
 bif (decide (x.deed=5))then
 bif (decide (x.deed=5))then
 aP (gB [(decide (x.index<(p.ac.length:Int)),true)]=true->(0:Int)<=x.index/\x.index<(p.ac.length:Int)) (
 some (bif (decide (x.index<(p.ac.length:Int)))then(!decide (((at' p.ac x.index.toNat).kind)=1))else false))
 else
 bif (decide (x.deed=3))then
 bif (decide (x.deed=3))then
 some (decide (x.index<p.aw))
 else
 bif (decide (x.deed=7))then
 bif (decide (x.deed=7))then
 some (decide (x.index<(p.aa.length:Int)))
 else
 some false
 else
 bif (decide (x.deed=8))then
 some (decide (x.index<(p.aa.length:Int)))
 else
 some false
 else
 bif (decide (x.deed=4))then
 some (decide (x.index<p.aw))
 else
 bif (decide (x.deed=7))then
 bif (decide (x.deed=7))then
 some (decide (x.index<(p.aa.length:Int)))
 else
 some false
 else
 bif (decide (x.deed=8))then
 some (decide (x.index<(p.aa.length:Int)))
 else
 some false
 else
 bif (decide (x.deed=6))then
 aP (gB [(decide (x.index<(p.ac.length:Int)),true)]=true->(0:Int)<=x.index/\x.index<(p.ac.length:Int)) (
 some (bif (decide (x.index<(p.ac.length:Int)))then(!decide (((at' p.ac x.index.toNat).kind)=1))else false))
 else
 bif (decide (x.deed=3))then
 bif (decide (x.deed=3))then
 some (decide (x.index<p.aw))
 else
 bif (decide (x.deed=7))then
 bif (decide (x.deed=7))then
 some (decide (x.index<(p.aa.length:Int)))
 else
 some false
 else
 bif (decide (x.deed=8))then
 some (decide (x.index<(p.aa.length:Int)))
 else
 some false
 else
 bif (decide (x.deed=4))then
 some (decide (x.index<p.aw))
 else
 bif (decide (x.deed=7))then
 bif (decide (x.deed=7))then
 some (decide (x.index<(p.aa.length:Int)))
 else
 some false
 else
 bif (decide (x.deed=8))then
 some (decide (x.index<(p.aa.length:Int)))
 else
 some false
def qD (p:au) (l:List af):Int->Option (bO Int (Ex Unit Bool)):=
 fun i=>
 bif (decide (i<(l.length:Int)))then
 (mG p (at' l i.toNat)).bind fun r_=>
 aP ((0:Int)<=i/\i<(l.length:Int)) (
 bif (!r_)then
 some (.done (.ret false))
 else
 some (.next (IntKind.wrap .i64 (i+1))))
 else
 some (.done (.brk ()))
def og (p:au) (l:List af):Option Bool:=
 Option.bind (aH (qD p l) FUEL (0)) fun o=>match o with
 | .ret v=>some v
 | .brk _=>
 some (decide ((l.length:Int)<=24))
def pu (p:au) (t:Task):Option Bool:=
 (kU t.fed (p.a_.length:Int)).bind fun r_=>
 (bif gB [(r_,true)]then kU t.bj p.aw else some default).bind fun r_1=>
 (bif gB [((bif r_ then r_1 else false),true)]then og p t.ba else some default).bind fun r_2=>
 (bif gB [((bif (bif r_ then r_1 else false)then r_2 else false),true)]then og p t.bk else some default).bind fun r_3=>
 some (bif (bif (bif r_ then r_1 else false)then r_2 else false)then r_3 else false)
def kX (p:au) (s_:State) (kz:Int):Option Bool:=
 aP (((0:Int)<=kz/\kz<(s_.on_.length:Int))/\(gB [(at' s_.on_ kz.toNat,true)]=true->(0:Int)<=kz/\kz<(s_.ae.length:Int))/\(gB [((bif (at' s_.on_ kz.toNat)then(!(at' s_.ae kz.toNat))else false),true)]=true->(0:Int)<=kz/\kz<(p.aa.length:Int))/\(gB [((bif (at' s_.on_ kz.toNat)then(!(at' s_.ae kz.toNat))else false),true)]=true->(0:Int)<=(at' p.aa kz.toNat).bus/\(at' p.aa kz.toNat).bus<(s_.aq.length:Int))) (
 some (bif (bif (at' s_.on_ kz.toNat)then(!(at' s_.ae kz.toNat))else false)then(!(at' s_.aq (((at' p.aa kz.toNat).bus).toNat)))else false))
def mQ (p:au) (s_:State) (i:Int):Option Bool:=
 aP (((0:Int)<=i/\i<(s_.am.length:Int))/\(gB [(at' s_.am i.toNat,true)]=true->(0:Int)<=i/\i<(s_.ap.length:Int))/\(gB [((bif (at' s_.am i.toNat)then(!(at' s_.ap i.toNat))else false),true)]=true->(0:Int)<=i/\i<(p.ac.length:Int))/\(gB [((bif (at' s_.am i.toNat)then(!(at' s_.ap i.toNat))else false),true)]=true->(0:Int)<=(at' p.ac i.toNat).a/\(at' p.ac i.toNat).a<(s_.aq.length:Int))/\(gB [((bif (bif (at' s_.am i.toNat)then(!(at' s_.ap i.toNat))else false)then(!(at' s_.aq (((at' p.ac i.toNat).a).toNat)))else false),true)]=true->(0:Int)<=i/\i<(p.ac.length:Int))/\(gB [((bif (bif (at' s_.am i.toNat)then(!(at' s_.ap i.toNat))else false)then(!(at' s_.aq (((at' p.ac i.toNat).a).toNat)))else false),true)]=true->(0:Int)<=(at' p.ac i.toNat).b/\(at' p.ac i.toNat).b<(s_.aq.length:Int))) (
 some (bif (bif (bif (at' s_.am i.toNat)then(!(at' s_.ap i.toNat))else false)then(!(at' s_.aq (((at' p.ac i.toNat).a).toNat)))else false)then(!(at' s_.aq (((at' p.ac i.toNat).b).toNat)))else false))
def jX (p:au) (s_:State) (b:Int):((List Bool) × Int)->Option (bO ((List Bool) × Int) (Ex (List Bool) (bO ((List Bool) × Int) (Ex (List Bool) (List Bool))))):=
 fun zz=>match zz with
 |(out2,i)=>
 bif (decide (i<(p.ac.length:Int)))then
 aP ((0:Int)<=i/\i<(p.ac.length:Int)) (
 (mQ p s_ i).bind fun r_=>
 aP ((gB [(r_,true)]=true->(0:Int)<=(at' p.ac i.toNat).a/\(at' p.ac i.toNat).a<(out2.length:Int))/\(gB [(at' out2 (((at' p.ac i.toNat).a).toNat),false),(r_,true)]=true->(0:Int)<=(at' p.ac i.toNat).b/\(at' p.ac i.toNat).b<(out2.length:Int))) (
 bif (bif r_ then(bif (at' out2 (((at' p.ac i.toNat).a).toNat))then true else(at' out2 (((at' p.ac i.toNat).b).toNat)))else false)then
 aP ((0:Int)<=(at' p.ac i.toNat).a/\(at' p.ac i.toNat).a<(out2.length:Int)) (
 aP ((0:Int)<=(at' p.ac i.toNat).b/\(at' p.ac i.toNat).b<((out2.set (((at' p.ac i.toNat).a).toNat) true).length:Int)) (
 some (.next ((out2.set (((at' p.ac i.toNat).a).toNat) true).set (((at' p.ac i.toNat).b).toNat) true,IntKind.wrap .i64 (i+1)))))
 else
 some (.next (out2,IntKind.wrap .i64 (i+1)))))
 else
 some (.done (.brk out2))
def jS (p:au) (s_:State) (b:Int):((List Bool) × Int)->Option (bO ((List Bool) × Int) (Ex (List Bool) (List Bool))):=
 fun zz=>match zz with
 |(out,n)=>
 bif (decide (n<p.aw))then
 Option.bind (aH (jX p s_ b) FUEL (out,0)) fun o=>match o with
 | .ret v=>some v
 | .brk out3=>
 some (.next (out3,IntKind.wrap .i64 (n+1)))
 else
 some (.done (.brk out))
def dQ (p:au) (s_:State) (b:Int):Option (List Bool):=
 aP (((0:Int)<=p.aw)/\((1:Int)*p.aw<=281474976710656)/\((p.aw:Int)<=9223372036854775807)) (
 aP ((0:Int)<=b/\b<((List.replicate p.aw.toNat (false:Bool)).length:Int)) (
 Option.bind (aH (jS p s_ b) FUEL ((List.replicate p.aw.toNat (false:Bool)).set b.toNat true,0)) fun o=>match o with
 | .ret v=>some v
 | .brk out1=>
 some out1))
def jb (p:au) (r_2:List Bool):((List Bool) × Int)->Option (bO ((List Bool) × Int) (Ex (List Bool) (bO ((List Bool) × Int) (Ex (List Bool) ((List Bool) × Int))))):=
 fun zz=>match zz with
 |(out2,b)=>
 bif (decide (b<p.aw))then
 aP (((0:Int)<=b/\b<(out2.length:Int))/\(gB [(at' out2 b.toNat,false)]=true->(0:Int)<=b/\b<(r_2.length:Int))) (
 some (.next (out2.set b.toNat (bif (at' out2 b.toNat)then true else(at' r_2 b.toNat)),IntKind.wrap .i64 (b+1))))
 else
 some (.done (.brk out2))
def ja (p:au) (s_:State):((List Bool) × Int)->Option (bO ((List Bool) × Int) (Ex (List Bool) ((List Bool) × Int))):=
 fun zz=>match zz with
 |(out,kz)=>
 bif (decide (kz<(p.aa.length:Int)))then
 (kX p s_ kz).bind fun r_1=>
 bif (!r_1)then
 some (.next (out,IntKind.wrap .i64 (kz+1)))
 else
 (dQ p s_ ((at' p.aa kz.toNat).bus)).bind fun r_2=>
 aP ((0:Int)<=kz/\kz<(p.aa.length:Int)) (
 Option.bind (aH (jb p r_2) FUEL (out,0)) fun o=>match o with
 | .ret v=>some v
 | .brk out3=>
 some (.next (out3,IntKind.wrap .i64 (kz+1))))
 else
 some (.done (.brk out))
def jw (p:au) (s_:State):Option ((List Bool) × Int):=
 (eX p s_).bind fun r_=>
 bif (!decide (r_=0))then
 some (([]:List Bool),r_)
 else
 aP (((0:Int)<=p.aw)/\((1:Int)*p.aw<=281474976710656)/\((p.aw:Int)<=9223372036854775807)) (
 Option.bind (aH (ja p s_) FUEL (List.replicate p.aw.toNat (false:Bool),0)) fun o=>match o with
 | .ret v=>some v
 | .brk out1=>
 some (out1,0))
def qN (a:Source) (b:Source):Option Bool:=
 some (bif (!decide (a.bs=b.bs))then true else(decide (a.bs=0)))
def kD (p:au) (s_:State) (i:Int):((List aB) × Int)->Option (bO ((List aB) × Int) (Ex (List aB) (bO ((List aB) × Int) (Ex (List aB) ((List aB) × Int))))):=
 fun zz=>match zz with
 |(out2,kz)=>
 bif (decide (kz<(p.aa.length:Int)))then
 (kX p s_ i).bind fun r_1=>
 (bif gB [(r_1,true)]then kX p s_ kz else some default).bind fun r_2=>
 (bif gB [((bif r_1 then r_2 else false),true)]then dQ p s_ ((at' p.aa i.toNat).bus)else some default).bind fun r_3=>
 (bif gB [((bif (bif r_1 then r_2 else false)then(at' r_3 (((at' p.aa kz.toNat).bus).toNat))else false),true)]then qN (at' p.aa i.toNat) (at' p.aa kz.toNat)else some default).bind fun r_4=>
 aP ((gB [((bif r_1 then r_2 else false),true)]=true->(0:Int)<=i/\i<(p.aa.length:Int))/\(gB [((bif r_1 then r_2 else false),true)]=true->(0:Int)<=kz/\kz<(p.aa.length:Int))/\(gB [((bif r_1 then r_2 else false),true)]=true->(0:Int)<=(at' p.aa kz.toNat).bus/\(at' p.aa kz.toNat).bus<(r_3.length:Int))/\(gB [((bif (bif r_1 then r_2 else false)then(at' r_3 (((at' p.aa kz.toNat).bus).toNat))else false),true)]=true->(0:Int)<=i/\i<(p.aa.length:Int))/\(gB [((bif (bif r_1 then r_2 else false)then(at' r_3 (((at' p.aa kz.toNat).bus).toNat))else false),true)]=true->(0:Int)<=kz/\kz<(p.aa.length:Int))) (
 bif (bif (bif (bif r_1 then r_2 else false)then(at' r_3 (((at' p.aa kz.toNat).bus).toNat))else false)then r_4 else false)then
 aP (((out2.length+[(⟨i,kz⟩:aB)].length)*16<=140737488355328)/\(out2.length+[(⟨i,kz⟩:aB)].length<=4611686018427387904)) (
 some (.next (out2++[(⟨i,kz⟩:aB)],IntKind.wrap .i64 (kz+1))))
 else
 some (.next (out2,IntKind.wrap .i64 (kz+1))))
 else
 some (.done (.brk out2))
def iH (p:au) (s_:State):((List aB) × Int)->Option (bO ((List aB) × Int) (Ex (List aB) ((List aB) × Int))):=
 fun zz=>match zz with
 |(out,i)=>
 bif (decide (i<(p.aa.length:Int)))then
 Option.bind (aH (kD p s_ i) FUEL (out,IntKind.wrap .i64 (i+1))) fun o=>match o with
 | .ret v=>some v
 | .brk out3=>
 some (.next (out3,IntKind.wrap .i64 (i+1)))
 else
 some (.done (.brk out))
def oC (p:au) (s_:State):Option ((List aB) × Int):=
 (eX p s_).bind fun r_=>
 bif (!decide (r_=0))then
 some (([]:List aB),r_)
 else
 Option.bind (aH (iH p s_) FUEL (([]:List aB),0)) fun o=>match o with
 | .ret v=>some v
 | .brk out1=>
 some (out1,0)
def vQ (l:List Int) (n:Int):Int->Option (bO Int (Ex Unit Bool)):=
 fun i=>
 bif (decide (i<(l.length:Int)))then
 aP ((0:Int)<=i/\i<(l.length:Int)) (
 bif (decide ((at' l i.toNat)=n))then
 some (.done (.ret true))
 else
 some (.next (IntKind.wrap .i64 (i+1))))
 else
 some (.done (.brk ()))
def qC (l:List Int) (n:Int):Option Bool:=
 Option.bind (aH (vQ l n) FUEL (0)) fun o=>match o with
 | .ret v=>some v
 | .brk _=>
 some false
def pY (p:au) (s_:State) (b:Int):Int->Option (bO Int (Ex Unit Bool)):=
 fun kz=>
 bif (decide (kz<(p.aa.length:Int)))then
 aP (((0:Int)<=kz/\kz<(p.aa.length:Int))/\(gB [(decide (((at' p.aa kz.toNat).bus)=b),true)]=true->(0:Int)<=kz/\kz<(s_.on_.length:Int))) (
 bif (bif (decide (((at' p.aa kz.toNat).bus)=b))then(at' s_.on_ kz.toNat)else false)then
 some (.done (.ret true))
 else
 some (.next (IntKind.wrap .i64 (kz+1))))
 else
 some (.done (.brk ()))
def pR (p:au) (s_:State) (bj:List Int) (b:Int):Int->Option (bO Int (Ex Unit Bool)):=
 fun i=>
 bif (decide (i<(p.ac.length:Int)))then
 Option.bind (α:=(Ex Unit (bO Int (Ex Unit Bool)))) (
 aP ((0:Int)<=i/\i<(p.ac.length:Int)) (
 bif (decide (((at' p.ac i.toNat).a)=b))then
 bif (decide (((at' p.ac i.toNat).b)=b))then
 (bif gB [(decide (0<=((at' p.ac i.toNat).a)),true)]then qC bj ((at' p.ac i.toNat).a)else some default).bind fun r_=>
 aP ((gB [(decide (((at' p.ac i.toNat).kind)=1),false),((bif (decide (0<=((at' p.ac i.toNat).a)))then(!r_)else false),true)]=true->(0:Int)<=i/\i<(s_.am.length:Int))/\(gB [((bif (decide (((at' p.ac i.toNat).kind)=1))then true else(at' s_.am i.toNat)),false),((bif (decide (0<=((at' p.ac i.toNat).a)))then(!r_)else false),true)]=true->(0:Int)<=i/\i<(s_.ar.length:Int))) (
 bif (bif (bif (decide (0<=((at' p.ac i.toNat).a)))then(!r_)else false)then(bif (bif (decide (((at' p.ac i.toNat).kind)=1))then true else(at' s_.am i.toNat))then true else(!(at' s_.ar i.toNat)))else false)then
 some (.ret (.done (.ret true)))
 else
 some (.brk ()))
 else
 (bif gB [(decide (0<=((at' p.ac i.toNat).b)),true)]then qC bj ((at' p.ac i.toNat).b)else some default).bind fun r_1=>
 aP ((gB [(decide (((at' p.ac i.toNat).kind)=1),false),((bif (decide (0<=((at' p.ac i.toNat).b)))then(!r_1)else false),true)]=true->(0:Int)<=i/\i<(s_.am.length:Int))/\(gB [((bif (decide (((at' p.ac i.toNat).kind)=1))then true else(at' s_.am i.toNat)),false),((bif (decide (0<=((at' p.ac i.toNat).b)))then(!r_1)else false),true)]=true->(0:Int)<=i/\i<(s_.ar.length:Int))) (
 bif (bif (bif (decide (0<=((at' p.ac i.toNat).b)))then(!r_1)else false)then(bif (bif (decide (((at' p.ac i.toNat).kind)=1))then true else(at' s_.am i.toNat))then true else(!(at' s_.ar i.toNat)))else false)then
 some (.ret (.done (.ret true)))
 else
 some (.brk ()))
 else
 bif (decide (((at' p.ac i.toNat).b)=b))then
 (bif gB [(decide (0<=((at' p.ac i.toNat).a)),true)]then qC bj ((at' p.ac i.toNat).a)else some default).bind fun r_2=>
 aP ((gB [(decide (((at' p.ac i.toNat).kind)=1),false),((bif (decide (0<=((at' p.ac i.toNat).a)))then(!r_2)else false),true)]=true->(0:Int)<=i/\i<(s_.am.length:Int))/\(gB [((bif (decide (((at' p.ac i.toNat).kind)=1))then true else(at' s_.am i.toNat)),false),((bif (decide (0<=((at' p.ac i.toNat).a)))then(!r_2)else false),true)]=true->(0:Int)<=i/\i<(s_.ar.length:Int))) (
 bif (bif (bif (decide (0<=((at' p.ac i.toNat).a)))then(!r_2)else false)then(bif (bif (decide (((at' p.ac i.toNat).kind)=1))then true else(at' s_.am i.toNat))then true else(!(at' s_.ar i.toNat)))else false)then
 some (.ret (.done (.ret true)))
 else
 some (.brk ()))
 else
 some (.brk ()))) fun o=>match o with
 | .ret v=>some v
 | .brk _=>
 some (.next (IntKind.wrap .i64 (i+1)))
 else
 some (.done (.brk ()))
def qf (p:au) (s_:State) (bj:List Int) (b:Int):Option Bool:=
 aP ((0:Int)<=b/\b<(s_.ag.length:Int)) (
 bif (!(at' s_.ag b.toNat))then
 some true
 else
 Option.bind (aH (pY p s_ b) FUEL (0)) fun o=>match o with
 | .ret v=>some v
 | .brk _=>
 Option.bind (aH (pR p s_ bj b) FUEL (0)) fun o=>match o with
 | .ret v=>some v
 | .brk _=>
 some false)
def nk (p:au) (s_:State) (r_2:(List Bool) × Int):Int->Option (bO Int (Ex Unit Int)):=
 fun b=>
 bif (decide (b<p.aw))then
 aP (((0:Int)<=b/\b<(r_2.1.length:Int))/\(gB [(at' r_2.1 b.toNat,true)]=true->(0:Int)<=b/\b<(s_.ag.length:Int))) (
 bif (bif (at' r_2.1 b.toNat)then(at' s_.ag b.toNat)else false)then
 some (.done (.ret 40))
 else
 some (.next (IntKind.wrap .i64 (b+1))))
 else
 some (.done (.brk ()))
def qo (p:au) (t:Task) (r_2:(List Bool) × Int):Int->Option (bO Int (Ex Unit Int)):=
 fun i=>
 bif (decide (i<(t.fed.length:Int)))then
 aP (((0:Int)<=i/\i<(t.fed.length:Int))/\((0:Int)<=(at' t.fed i.toNat)/\(at' t.fed i.toNat)<(p.a_.length:Int))) (
 aP (((0:Int)<=((at' p.a_ ((at' t.fed i.toNat).toNat)).bh).e0/\((at' p.a_ ((at' t.fed i.toNat).toNat)).bh).e0<(r_2.1.length:Int))/\(gB [(decide (0<=(((at' p.a_ ((at' t.fed i.toNat).toNat)).bh).e1)),true),(!(at' r_2.1 ((((at' p.a_ ((at' t.fed i.toNat).toNat)).bh).e0).toNat)),true)]=true->(0:Int)<=(if((at' p.a_ ((at' t.fed i.toNat).toNat)).bh).e1<0 then 0 else((at' p.a_ ((at' t.fed i.toNat).toNat)).bh).e1)/\(if((at' p.a_ ((at' t.fed i.toNat).toNat)).bh).e1<0 then 0 else((at' p.a_ ((at' t.fed i.toNat).toNat)).bh).e1)<(r_2.1.length:Int))) (
 bif (bif (!(at' r_2.1 ((((at' p.a_ ((at' t.fed i.toNat).toNat)).bh).e0).toNat)))then(!(bif (decide (0<=(((at' p.a_ ((at' t.fed i.toNat).toNat)).bh).e1)))then(at' r_2.1 ((if((at' p.a_ ((at' t.fed i.toNat).toNat)).bh).e1<0 then 0 else((at' p.a_ ((at' t.fed i.toNat).toNat)).bh).e1).toNat))else false))else false)then
 some (.done (.ret 42))
 else
 some (.next (IntKind.wrap .i64 (i+1)))))
 else
 some (.done (.brk ()))
def qz (p:au) (s_:State) (t:Task):Int->Option (bO Int (Ex Unit Int)):=
 fun i1=>
 bif (decide (i1<(t.bj.length:Int)))then
 (qf p s_ t.bj (at' t.bj i1.toNat)).bind fun r_4=>
 aP ((0:Int)<=i1/\i1<(t.bj.length:Int)) (
 bif r_4 then
 some (.done (.ret 45))
 else
 some (.next (IntKind.wrap .i64 (i1+1))))
 else
 some (.done (.brk ()))
def d9 (p:au) (s_:State) (t:Task):Option Int:=
 (eX p s_).bind fun r_=>
 bif (!decide (r_=0))then
 some r_
 else
 (pu p t).bind fun r_1=>
 bif (!r_1)then
 some 1
 else
 (jw p s_).bind fun r_2=>
 Option.bind (aH (nk p s_ r_2) FUEL (0)) fun o=>match o with
 | .ret v=>some v
 | .brk _=>
 (oC p s_).bind fun r_3=>
 bif (decide (0<(r_3.1.length:Int)))then
 some 41
 else
 Option.bind (aH (qo p t r_2) FUEL (0)) fun o=>match o with
 | .ret v=>some v
 | .brk _=>
 Option.bind (aH (qz p s_ t) FUEL (0)) fun o=>match o with
 | .ret v=>some v
 | .brk _=>
 some 0
def pI (s_:List Bool) (s_nn:Bool):Option (List Bool):=
 bif (!s_nn)then
 some ([]:List Bool)
 else
 aP (((([]:List Bool).length+s_.length)*1<=140737488355328)/\(([]:List Bool).length+s_.length<=4611686018427387904)) (
 some (([]:List Bool)++s_))
def aj (s:List Bool):Option (List Bool):=pI s true
def nX:Option Unit:=
 some ()
def ko (state:State):Option Unit:=
 some ()
def kK (state:State):Option Unit:=
 some ()
def kH (state:State):Option Unit:=
 some ()
def kG (state:State):Option Unit:=
 some ()
def nM (s_:State) (x:af):Option State:=
 (nX).bind fun r_=>
 bif (bB x.deed 1)then
 aP ((0:Int)<=0/\0<(7:Int)) (
 (aj s_.am).bind fun r_1=>
 aP ((0:Int)<=1/\1<(7:Int)) (
 (aj s_.ar).bind fun r_2=>
 aP ((0:Int)<=2/\2<(7:Int)) (
 (aj s_.ap).bind fun r_3=>
 aP ((0:Int)<=3/\3<(7:Int)) (
 (aj s_.on_).bind fun r_4=>
 aP ((0:Int)<=4/\4<(7:Int)) (
 (aj s_.ae).bind fun r_5=>
 aP ((0:Int)<=5/\5<(7:Int)) (
 (aj s_.ag).bind fun r_6=>
 aP ((0:Int)<=6/\6<(7:Int)) (
 (aj s_.aq).bind fun r_7=>
 (ko (⟨r_1,r_2,r_3,r_4,r_5,r_6,r_7⟩:State)).bind fun r_8=>
 aP ((0:Int)<=x.index/\x.index<(r_1.length:Int)) (
 some (⟨r_1.set x.index.toNat false,r_2,r_3,r_4,r_5,r_6,r_7⟩:State)))))))))
 else
 bif (bB x.deed 2)then
 aP ((0:Int)<=0/\0<(7:Int)) (
 (aj s_.am).bind fun r_9=>
 aP ((0:Int)<=1/\1<(7:Int)) (
 (aj s_.ar).bind fun r_10=>
 aP ((0:Int)<=2/\2<(7:Int)) (
 (aj s_.ap).bind fun r_11=>
 aP ((0:Int)<=3/\3<(7:Int)) (
 (aj s_.on_).bind fun r_12=>
 aP ((0:Int)<=4/\4<(7:Int)) (
 (aj s_.ae).bind fun r_13=>
 aP ((0:Int)<=5/\5<(7:Int)) (
 (aj s_.ag).bind fun r_14=>
 aP ((0:Int)<=6/\6<(7:Int)) (
 (aj s_.aq).bind fun r_15=>
 (ko (⟨r_9,r_10,r_11,r_12,r_13,r_14,r_15⟩:State)).bind fun r_16=>
 aP ((0:Int)<=x.index/\x.index<(r_9.length:Int)) (
 some (⟨r_9.set x.index.toNat true,r_10,r_11,r_12,r_13,r_14,r_15⟩:State)))))))))
 else
 bif (bB x.deed 3)then
 aP ((0:Int)<=0/\0<(7:Int)) (
 (aj s_.am).bind fun r_17=>
 aP ((0:Int)<=1/\1<(7:Int)) (
 (aj s_.ar).bind fun r_18=>
 aP ((0:Int)<=2/\2<(7:Int)) (
 (aj s_.ap).bind fun r_19=>
 aP ((0:Int)<=3/\3<(7:Int)) (
 (aj s_.on_).bind fun r_20=>
 aP ((0:Int)<=4/\4<(7:Int)) (
 (aj s_.ae).bind fun r_21=>
 aP ((0:Int)<=5/\5<(7:Int)) (
 (aj s_.ag).bind fun r_22=>
 aP ((0:Int)<=6/\6<(7:Int)) (
 (aj s_.aq).bind fun r_23=>
 (kK (⟨r_17,r_18,r_19,r_20,r_21,r_22,r_23⟩:State)).bind fun r_24=>
 aP ((0:Int)<=x.index/\x.index<(r_22.length:Int)) (
 some (⟨r_17,r_18,r_19,r_20,r_21,r_22.set x.index.toNat true,r_23⟩:State)))))))))
 else
 bif (bB x.deed 4)then
 aP ((0:Int)<=0/\0<(7:Int)) (
 (aj s_.am).bind fun r_25=>
 aP ((0:Int)<=1/\1<(7:Int)) (
 (aj s_.ar).bind fun r_26=>
 aP ((0:Int)<=2/\2<(7:Int)) (
 (aj s_.ap).bind fun r_27=>
 aP ((0:Int)<=3/\3<(7:Int)) (
 (aj s_.on_).bind fun r_28=>
 aP ((0:Int)<=4/\4<(7:Int)) (
 (aj s_.ae).bind fun r_29=>
 aP ((0:Int)<=5/\5<(7:Int)) (
 (aj s_.ag).bind fun r_30=>
 aP ((0:Int)<=6/\6<(7:Int)) (
 (aj s_.aq).bind fun r_31=>
 (kK (⟨r_25,r_26,r_27,r_28,r_29,r_30,r_31⟩:State)).bind fun r_32=>
 aP ((0:Int)<=x.index/\x.index<(r_30.length:Int)) (
 some (⟨r_25,r_26,r_27,r_28,r_29,r_30.set x.index.toNat false,r_31⟩:State)))))))))
 else
 bif (bB x.deed 5)then
 aP ((0:Int)<=0/\0<(7:Int)) (
 (aj s_.am).bind fun r_33=>
 aP ((0:Int)<=1/\1<(7:Int)) (
 (aj s_.ar).bind fun r_34=>
 aP ((0:Int)<=2/\2<(7:Int)) (
 (aj s_.ap).bind fun r_35=>
 aP ((0:Int)<=3/\3<(7:Int)) (
 (aj s_.on_).bind fun r_36=>
 aP ((0:Int)<=4/\4<(7:Int)) (
 (aj s_.ae).bind fun r_37=>
 aP ((0:Int)<=5/\5<(7:Int)) (
 (aj s_.ag).bind fun r_38=>
 aP ((0:Int)<=6/\6<(7:Int)) (
 (aj s_.aq).bind fun r_39=>
 (kH (⟨r_33,r_34,r_35,r_36,r_37,r_38,r_39⟩:State)).bind fun r_40=>
 aP ((0:Int)<=x.index/\x.index<(r_34.length:Int)) (
 some (⟨r_33,r_34.set x.index.toNat true,r_35,r_36,r_37,r_38,r_39⟩:State)))))))))
 else
 bif (bB x.deed 6)then
 aP ((0:Int)<=0/\0<(7:Int)) (
 (aj s_.am).bind fun r_41=>
 aP ((0:Int)<=1/\1<(7:Int)) (
 (aj s_.ar).bind fun r_42=>
 aP ((0:Int)<=2/\2<(7:Int)) (
 (aj s_.ap).bind fun r_43=>
 aP ((0:Int)<=3/\3<(7:Int)) (
 (aj s_.on_).bind fun r_44=>
 aP ((0:Int)<=4/\4<(7:Int)) (
 (aj s_.ae).bind fun r_45=>
 aP ((0:Int)<=5/\5<(7:Int)) (
 (aj s_.ag).bind fun r_46=>
 aP ((0:Int)<=6/\6<(7:Int)) (
 (aj s_.aq).bind fun r_47=>
 (kH (⟨r_41,r_42,r_43,r_44,r_45,r_46,r_47⟩:State)).bind fun r_48=>
 aP ((0:Int)<=x.index/\x.index<(r_42.length:Int)) (
 some (⟨r_41,r_42.set x.index.toNat false,r_43,r_44,r_45,r_46,r_47⟩:State)))))))))
 else
 bif (bB x.deed 7)then
 aP ((0:Int)<=0/\0<(7:Int)) (
 (aj s_.am).bind fun r_49=>
 aP ((0:Int)<=1/\1<(7:Int)) (
 (aj s_.ar).bind fun r_50=>
 aP ((0:Int)<=2/\2<(7:Int)) (
 (aj s_.ap).bind fun r_51=>
 aP ((0:Int)<=3/\3<(7:Int)) (
 (aj s_.on_).bind fun r_52=>
 aP ((0:Int)<=4/\4<(7:Int)) (
 (aj s_.ae).bind fun r_53=>
 aP ((0:Int)<=5/\5<(7:Int)) (
 (aj s_.ag).bind fun r_54=>
 aP ((0:Int)<=6/\6<(7:Int)) (
 (aj s_.aq).bind fun r_55=>
 (kG (⟨r_49,r_50,r_51,r_52,r_53,r_54,r_55⟩:State)).bind fun r_56=>
 aP ((0:Int)<=x.index/\x.index<(r_52.length:Int)) (
 some (⟨r_49,r_50,r_51,r_52.set x.index.toNat true,r_53,r_54,r_55⟩:State)))))))))
 else
 bif (bB x.deed 8)then
 aP ((0:Int)<=0/\0<(7:Int)) (
 (aj s_.am).bind fun r_57=>
 aP ((0:Int)<=1/\1<(7:Int)) (
 (aj s_.ar).bind fun r_58=>
 aP ((0:Int)<=2/\2<(7:Int)) (
 (aj s_.ap).bind fun r_59=>
 aP ((0:Int)<=3/\3<(7:Int)) (
 (aj s_.on_).bind fun r_60=>
 aP ((0:Int)<=4/\4<(7:Int)) (
 (aj s_.ae).bind fun r_61=>
 aP ((0:Int)<=5/\5<(7:Int)) (
 (aj s_.ag).bind fun r_62=>
 aP ((0:Int)<=6/\6<(7:Int)) (
 (aj s_.aq).bind fun r_63=>
 (kG (⟨r_57,r_58,r_59,r_60,r_61,r_62,r_63⟩:State)).bind fun r_64=>
 aP ((0:Int)<=x.index/\x.index<(r_60.length:Int)) (
 some (⟨r_57,r_58,r_59,r_60.set x.index.toNat false,r_61,r_62,r_63⟩:State)))))))))
 else
 aP ((0:Int)<=0/\0<(7:Int)) (
 (aj s_.am).bind fun r_65=>
 aP ((0:Int)<=1/\1<(7:Int)) (
 (aj s_.ar).bind fun r_66=>
 aP ((0:Int)<=2/\2<(7:Int)) (
 (aj s_.ap).bind fun r_67=>
 aP ((0:Int)<=3/\3<(7:Int)) (
 (aj s_.on_).bind fun r_68=>
 aP ((0:Int)<=4/\4<(7:Int)) (
 (aj s_.ae).bind fun r_69=>
 aP ((0:Int)<=5/\5<(7:Int)) (
 (aj s_.ag).bind fun r_70=>
 aP ((0:Int)<=6/\6<(7:Int)) (
 (aj s_.aq).bind fun r_71=>
 none)))))))
def rA:Option Unit:=
 some ()
def qa (p:au) (s_:State) (x:af):Option Bool:=
 (mK p x).bind fun r_=>
 some (!r_)
def oG (s_:List Bool) (s_1:List Bool) (s_2:List Bool) (s_3:List Bool) (s_4:List Bool) (s_5:List Bool) (s_6:List Bool):Option ((List Bool) × (List Bool) × (List Bool) × (List Bool) × (List Bool) × (List Bool) × (List Bool)):=
 some (s_,s_1,s_2,s_3,s_4,s_5,s_6)
def oz (s_:List Bool) (s_1:List Bool) (s_2:List Bool) (s_3:List Bool) (s_4:List Bool) (s_5:List Bool) (s_6:List Bool):Option ((List Bool) × (List Bool) × (List Bool) × (List Bool) × (List Bool) × (List Bool) × (List Bool)):=
 some (s_,s_1,s_2,s_3,s_4,s_5,s_6)
def ow (s_:List Bool) (s_1:List Bool) (s_2:List Bool) (s_3:List Bool) (s_4:List Bool) (s_5:List Bool) (s_6:List Bool):Option ((List Bool) × (List Bool) × (List Bool) × (List Bool) × (List Bool) × (List Bool) × (List Bool)):=
 some (s_,s_1,s_2,s_3,s_4,s_5,s_6)
def oH (s_:List Bool) (s_1:List Bool) (s_2:List Bool) (s_3:List Bool) (s_4:List Bool) (s_5:List Bool) (s_6:List Bool):Option ((List Bool) × (List Bool) × (List Bool) × (List Bool) × (List Bool) × (List Bool) × (List Bool)):=
 some (s_,s_1,s_2,s_3,s_4,s_5,s_6)
def nV (s_:State) (x:af):Option Bool:=
 (nX).bind fun r_=>
 bif (bB x.deed 1)then
 (oG s_.am s_.ar s_.ap s_.on_ s_.ae s_.ag s_.aq).bind fun r_1=>
 aP ((0:Int)<=x.index/\x.index<(r_1.1.length:Int)) (
 some ((at' r_1.1 x.index.toNat)==false))
 else
 bif (bB x.deed 2)then
 (oG s_.am s_.ar s_.ap s_.on_ s_.ae s_.ag s_.aq).bind fun r_2=>
 aP ((0:Int)<=x.index/\x.index<(r_2.1.length:Int)) (
 some ((at' r_2.1 x.index.toNat)==true))
 else
 bif (bB x.deed 3)then
 (oz s_.am s_.ar s_.ap s_.on_ s_.ae s_.ag s_.aq).bind fun r_3=>
 aP ((0:Int)<=x.index/\x.index<(r_3.2.2.2.2.2.1.length:Int)) (
 some ((at' r_3.2.2.2.2.2.1 x.index.toNat)==true))
 else
 bif (bB x.deed 4)then
 (oz s_.am s_.ar s_.ap s_.on_ s_.ae s_.ag s_.aq).bind fun r_4=>
 aP ((0:Int)<=x.index/\x.index<(r_4.2.2.2.2.2.1.length:Int)) (
 some ((at' r_4.2.2.2.2.2.1 x.index.toNat)==false))
 else
 bif (bB x.deed 5)then
 (ow s_.am s_.ar s_.ap s_.on_ s_.ae s_.ag s_.aq).bind fun r_5=>
 aP ((0:Int)<=x.index/\x.index<(r_5.2.1.length:Int)) (
 some ((at' r_5.2.1 x.index.toNat)==true))
 else
 bif (bB x.deed 6)then
 (ow s_.am s_.ar s_.ap s_.on_ s_.ae s_.ag s_.aq).bind fun r_6=>
 aP ((0:Int)<=x.index/\x.index<(r_6.2.1.length:Int)) (
 some ((at' r_6.2.1 x.index.toNat)==false))
 else
 bif (bB x.deed 7)then
 (oH s_.am s_.ar s_.ap s_.on_ s_.ae s_.ag s_.aq).bind fun r_7=>
 aP ((0:Int)<=x.index/\x.index<(r_7.2.2.2.1.length:Int)) (
 some ((at' r_7.2.2.2.1 x.index.toNat)==true))
 else
 bif (bB x.deed 8)then
 (oH s_.am s_.ar s_.ap s_.on_ s_.ae s_.ag s_.aq).bind fun r_8=>
 aP ((0:Int)<=x.index/\x.index<(r_8.2.2.2.1.length:Int)) (
 some ((at' r_8.2.2.2.1 x.index.toNat)==false))
 else
 none
def o6 (p:au) (s_:State) (x:af):Option Bool:=
 (nV s_ x).bind fun r_=>
 some r_
def fZ (x:af):Option Bool:=
 some (bif (decide (x.deed=1))then true else(decide (x.deed=2)))
def xP (x:af):Option Bool:=
 some (bif (decide (x.deed=7))then true else(decide (x.deed=8)))
def lM (p:au) (s_:State) (x:af):Option Bool:=
 (fZ x).bind fun r_=>
 (bif gB [((bif r_ then(at' s_.ap x.index.toNat)else false),false)]then xP x else some default).bind fun r_1=>
 aP ((gB [(r_,true)]=true->(0:Int)<=x.index/\x.index<(s_.ap.length:Int))/\(gB [(r_1,true),((bif r_ then(at' s_.ap x.index.toNat)else false),false)]=true->(0:Int)<=x.index/\x.index<(s_.ae.length:Int))) (
 some (bif (bif r_ then(at' s_.ap x.index.toNat)else false)then true else(bif r_1 then(at' s_.ae x.index.toNat)else false)))
def lJ (p:au) (s_:State) (x:af):Option Bool:=
 (fZ x).bind fun r_=>
 aP (gB [(r_,true)]=true->(0:Int)<=x.index/\x.index<(s_.ar.length:Int)) (
 some (bif r_ then(at' s_.ar x.index.toNat)else false))
def kR (p:au) (s_:State):Option ((List aI) × Int):=
 (dZ p s_).bind fun r_=>
 bif (!decide (r_=0))then
 some (([]:List aI),r_)
 else
 (fJ p s_).bind fun r_1=>
 some (r_1,0)
def qp (x:aI) (x1:Int):Option Bool:=
 (jl x.aw x1).bind fun r_=>
 some r_
def gF (s_:List aI) (f_:Int):Int->Option (bO Int (Ex Unit Int)):=
 fun t8=>
 bif (decide (t8<(s_.length:Int)))then
 (qp (at' s_ t8.toNat) f_).bind fun r_=>
 aP ((0:Int)<=t8/\t8<(s_.length:Int)) (
 bif r_ then
 some (.done (.ret t8))
 else
 some (.next (IntKind.wrap .i64 (t8+1))))
 else
 some (.done (.brk ()))
def eP (s_:List aI) (f_:Int):Option Int:=
 Option.bind (aH (gF s_ f_) FUEL (0)) fun o=>match o with
 | .ret v=>some v
 | .brk _=>
 some (-1)
def iI (b:Int) (x1:List aI):Option Int:=
 (eP x1 b).bind fun r_=>
 some r_
def rT (p:au) (s_:State) (i:Int):Option Bool:=
 aP ((0:Int)<=i/\i<(s_.am.length:Int)) (
 bif (at' s_.am i.toNat)then
 (nM s_ (⟨1,i⟩:af)).bind fun r_=>
 (kR p r_).bind fun r_1=>
 (iI ((at' p.ac i.toNat).a) r_1.1).bind fun r_2=>
 (iI ((at' p.ac i.toNat).b) r_1.1).bind fun r_3=>
 aP ((0:Int)<=i/\i<(p.ac.length:Int)) (
 aP ((gB [((bif (bif (decide (0<=r_2))then(decide (0<=r_3))else false)then(!decide (r_2=r_3))else false),true)]=true->(0:Int)<=r_2/\r_2<(r_1.1.length:Int))/\(gB [((bif (bif (decide (0<=r_2))then(decide (0<=r_3))else false)then(!decide (r_2=r_3))else false),true)]=true->(0:Int)<=r_3/\r_3<(r_1.1.length:Int))) (
 some (bif (bif (bif (decide (0<=r_2))then(decide (0<=r_3))else false)then(!decide (r_2=r_3))else false)then(decide (0<(IntKind.wrap .i64 ((((at' r_1.1 r_2.toNat).aa).length:Int)+(((at' r_1.1 r_3.toNat).aa).length:Int)))))else false)))
 else
 (kR p s_).bind fun r_4=>
 (iI ((at' p.ac i.toNat).a) r_4.1).bind fun r_5=>
 (iI ((at' p.ac i.toNat).b) r_4.1).bind fun r_6=>
 aP ((0:Int)<=i/\i<(p.ac.length:Int)) (
 aP ((gB [((bif (bif (decide (0<=r_5))then(decide (0<=r_6))else false)then(!decide (r_5=r_6))else false),true)]=true->(0:Int)<=r_5/\r_5<(r_4.1.length:Int))/\(gB [((bif (bif (decide (0<=r_5))then(decide (0<=r_6))else false)then(!decide (r_5=r_6))else false),true)]=true->(0:Int)<=r_6/\r_6<(r_4.1.length:Int))) (
 some (bif (bif (bif (decide (0<=r_5))then(decide (0<=r_6))else false)then(!decide (r_5=r_6))else false)then(decide (0<(IntKind.wrap .i64 ((((at' r_4.1 r_5.toNat).aa).length:Int)+(((at' r_4.1 r_6.toNat).aa).length:Int)))))else false))))
def lI (p:au) (s_:State) (x:af):Option Bool:=
 (fZ x).bind fun r_=>
 (bif gB [((bif r_ then(decide (((at' p.ac x.index.toNat).kind)=2))else false),true)]then rT p s_ x.index else some default).bind fun r_1=>
 aP (gB [(r_,true)]=true->(0:Int)<=x.index/\x.index<(p.ac.length:Int)) (
 some (bif (bif r_ then(decide (((at' p.ac x.index.toNat).kind)=2))else false)then r_1 else false))
def uI (p:au) (s_:State) (x:af):Option (State × Int):=
 (rA).bind fun r_=>
 (qa p s_ x).bind fun r_1=>
 bif r_1 then
 some ((⟨([]:List Bool),([]:List Bool),([]:List Bool),([]:List Bool),([]:List Bool),([]:List Bool),([]:List Bool)⟩:State),1)
 else
 (o6 p s_ x).bind fun r_2=>
 bif r_2 then
 some ((⟨([]:List Bool),([]:List Bool),([]:List Bool),([]:List Bool),([]:List Bool),([]:List Bool),([]:List Bool)⟩:State),46)
 else
 (lM p s_ x).bind fun r_3=>
 bif r_3 then
 some ((⟨([]:List Bool),([]:List Bool),([]:List Bool),([]:List Bool),([]:List Bool),([]:List Bool),([]:List Bool)⟩:State),47)
 else
 (lJ p s_ x).bind fun r_4=>
 bif r_4 then
 some ((⟨([]:List Bool),([]:List Bool),([]:List Bool),([]:List Bool),([]:List Bool),([]:List Bool),([]:List Bool)⟩:State),43)
 else
 (lI p s_ x).bind fun r_5=>
 bif r_5 then
 some ((⟨([]:List Bool),([]:List Bool),([]:List Bool),([]:List Bool),([]:List Bool),([]:List Bool),([]:List Bool)⟩:State),44)
 else
 (nM s_ x).bind fun r_6=>
 some (r_6,0)
def eY (p:au) (s_:State) (x:af):Option (State × Int):=
 (dZ p s_).bind fun r_=>
 bif (!decide (r_=0))then
 some ((⟨([]:List Bool),([]:List Bool),([]:List Bool),([]:List Bool),([]:List Bool),([]:List Bool),([]:List Bool)⟩:State),r_)
 else
 (uI p s_ x).bind fun r_1=>
 some (r_1.1,r_1.2)
def qL (s_:State) (x:af):Option Bool:=
 bif (decide (x.deed=1))then
 aP ((0:Int)<=x.index/\x.index<(s_.am.length:Int)) (
 some (!(at' s_.am x.index.toNat)))
 else
 bif (decide (x.deed=2))then
 aP ((0:Int)<=x.index/\x.index<(s_.am.length:Int)) (
 some (at' s_.am x.index.toNat))
 else
 bif (decide (x.deed=3))then
 aP ((0:Int)<=x.index/\x.index<(s_.ag.length:Int)) (
 some (at' s_.ag x.index.toNat))
 else
 bif (decide (x.deed=4))then
 aP ((0:Int)<=x.index/\x.index<(s_.ag.length:Int)) (
 some (!(at' s_.ag x.index.toNat)))
 else
 bif (decide (x.deed=5))then
 aP ((0:Int)<=x.index/\x.index<(s_.ar.length:Int)) (
 some (at' s_.ar x.index.toNat))
 else
 bif (decide (x.deed=6))then
 aP ((0:Int)<=x.index/\x.index<(s_.ar.length:Int)) (
 some (!(at' s_.ar x.index.toNat)))
 else
 bif (decide (x.deed=7))then
 aP ((0:Int)<=x.index/\x.index<(s_.on_.length:Int)) (
 some (at' s_.on_ x.index.toNat))
 else
 aP ((0:Int)<=x.index/\x.index<(s_.on_.length:Int)) (
 some (!(at' s_.on_ x.index.toNat)))
def dP (l:List Bool):Option (List Bool):=
 aP ((l.length*1<=140737488355328)/\(l.length<=4611686018427387904)) (
 some l)
def kQ (x:State):Option State:=
 (dP x.am).bind fun r_=>
 (dP x.ar).bind fun r_1=>
 (dP x.ap).bind fun r_2=>
 (dP x.on_).bind fun r_3=>
 (dP x.ae).bind fun r_4=>
 (dP x.ag).bind fun r_5=>
 (dP x.aq).bind fun r_6=>
 some (⟨r_,r_1,r_2,r_3,r_4,r_5,r_6⟩:State)
def vw (p:au) (s_:State) (i:Int):Option Bool:=
 (kQ s_).bind fun r_=>
 aP ((0:Int)<=i/\i<(r_.am.length:Int)) (
 aP ((0:Int)<=i/\i<(p.ac.length:Int)) (
 aP (((0:Int)<=(at' p.ac i.toNat).a/\(at' p.ac i.toNat).a<(r_.aq.length:Int))/\(gB [(at' r_.aq (((at' p.ac i.toNat).a).toNat),false)]=true->(0:Int)<=(at' p.ac i.toNat).b/\(at' p.ac i.toNat).b<(r_.aq.length:Int))) (
 bif (bif (at' r_.aq (((at' p.ac i.toNat).a).toNat))then true else(at' r_.aq (((at' p.ac i.toNat).b).toNat)))then
 some false
 else
 (jw p (⟨r_.am.set i.toNat false,r_.ar,r_.ap,r_.on_,r_.ae,r_.ag,r_.aq⟩:State)).bind fun r_1=>
 (dQ p (⟨r_.am.set i.toNat false,r_.ar,r_.ap,r_.on_,r_.ae,r_.ag,r_.aq⟩:State) ((at' p.ac i.toNat).a)).bind fun r_2=>
 aP (((0:Int)<=(at' p.ac i.toNat).b/\(at' p.ac i.toNat).b<(r_2.length:Int))/\(gB [(!(at' r_2 (((at' p.ac i.toNat).b).toNat)),true)]=true->(0:Int)<=(at' p.ac i.toNat).a/\(at' p.ac i.toNat).a<(r_1.1.length:Int))/\(gB [(at' r_1.1 (((at' p.ac i.toNat).a).toNat),false),(!(at' r_2 (((at' p.ac i.toNat).b).toNat)),true)]=true->(0:Int)<=(at' p.ac i.toNat).b/\(at' p.ac i.toNat).b<(r_1.1.length:Int))) (
 some (bif (!(at' r_2 (((at' p.ac i.toNat).b).toNat)))then(bif (at' r_1.1 (((at' p.ac i.toNat).a).toNat))then true else(at' r_1.1 (((at' p.ac i.toNat).b).toNat)))else false)))))
def qO (s_:State) (x:af):Option State:=
 (kQ s_).bind fun r_=>
 bif (decide (x.deed=1))then
 bif (decide (x.deed=1))then
 aP ((0:Int)<=x.index/\x.index<(r_.am.length:Int)) (
 some (⟨r_.am.set x.index.toNat (decide (x.deed=2)),r_.ar,r_.ap,r_.on_,r_.ae,r_.ag,r_.aq⟩:State))
 else
 bif (decide (x.deed=3))then
 bif (decide (x.deed=3))then
 aP ((0:Int)<=x.index/\x.index<(r_.ag.length:Int)) (
 some (⟨r_.am,r_.ar,r_.ap,r_.on_,r_.ae,r_.ag.set x.index.toNat (decide (x.deed=3)),r_.aq⟩:State))
 else
 bif (decide (x.deed=5))then
 bif (decide (x.deed=5))then
 aP ((0:Int)<=x.index/\x.index<(r_.ar.length:Int)) (
 some (⟨r_.am,r_.ar.set x.index.toNat (decide (x.deed=5)),r_.ap,r_.on_,r_.ae,r_.ag,r_.aq⟩:State))
 else
 bif (decide (x.deed=7))then
 bif (decide (x.deed=7))then
 aP ((0:Int)<=x.index/\x.index<(r_.on_.length:Int)) (
 some (⟨r_.am,r_.ar,r_.ap,r_.on_.set x.index.toNat (decide (x.deed=7)),r_.ae,r_.ag,r_.aq⟩:State))
 else
 some r_
 else
 bif (decide (x.deed=8))then
 aP ((0:Int)<=x.index/\x.index<(r_.on_.length:Int)) (
 some (⟨r_.am,r_.ar,r_.ap,r_.on_.set x.index.toNat (decide (x.deed=7)),r_.ae,r_.ag,r_.aq⟩:State))
 else
 some r_
 else
 bif (decide (x.deed=6))then
 aP ((0:Int)<=x.index/\x.index<(r_.ar.length:Int)) (
 some (⟨r_.am,r_.ar.set x.index.toNat (decide (x.deed=5)),r_.ap,r_.on_,r_.ae,r_.ag,r_.aq⟩:State))
 else
 bif (decide (x.deed=7))then
 bif (decide (x.deed=7))then
 aP ((0:Int)<=x.index/\x.index<(r_.on_.length:Int)) (
 some (⟨r_.am,r_.ar,r_.ap,r_.on_.set x.index.toNat (decide (x.deed=7)),r_.ae,r_.ag,r_.aq⟩:State))
 else
 some r_
 else
 bif (decide (x.deed=8))then
 aP ((0:Int)<=x.index/\x.index<(r_.on_.length:Int)) (
 some (⟨r_.am,r_.ar,r_.ap,r_.on_.set x.index.toNat (decide (x.deed=7)),r_.ae,r_.ag,r_.aq⟩:State))
 else
 some r_
 else
 bif (decide (x.deed=4))then
 aP ((0:Int)<=x.index/\x.index<(r_.ag.length:Int)) (
 some (⟨r_.am,r_.ar,r_.ap,r_.on_,r_.ae,r_.ag.set x.index.toNat (decide (x.deed=3)),r_.aq⟩:State))
 else
 bif (decide (x.deed=5))then
 bif (decide (x.deed=5))then
 aP ((0:Int)<=x.index/\x.index<(r_.ar.length:Int)) (
 some (⟨r_.am,r_.ar.set x.index.toNat (decide (x.deed=5)),r_.ap,r_.on_,r_.ae,r_.ag,r_.aq⟩:State))
 else
 bif (decide (x.deed=7))then
 bif (decide (x.deed=7))then
 aP ((0:Int)<=x.index/\x.index<(r_.on_.length:Int)) (
 some (⟨r_.am,r_.ar,r_.ap,r_.on_.set x.index.toNat (decide (x.deed=7)),r_.ae,r_.ag,r_.aq⟩:State))
 else
 some r_
 else
 bif (decide (x.deed=8))then
 aP ((0:Int)<=x.index/\x.index<(r_.on_.length:Int)) (
 some (⟨r_.am,r_.ar,r_.ap,r_.on_.set x.index.toNat (decide (x.deed=7)),r_.ae,r_.ag,r_.aq⟩:State))
 else
 some r_
 else
 bif (decide (x.deed=6))then
 aP ((0:Int)<=x.index/\x.index<(r_.ar.length:Int)) (
 some (⟨r_.am,r_.ar.set x.index.toNat (decide (x.deed=5)),r_.ap,r_.on_,r_.ae,r_.ag,r_.aq⟩:State))
 else
 bif (decide (x.deed=7))then
 bif (decide (x.deed=7))then
 aP ((0:Int)<=x.index/\x.index<(r_.on_.length:Int)) (
 some (⟨r_.am,r_.ar,r_.ap,r_.on_.set x.index.toNat (decide (x.deed=7)),r_.ae,r_.ag,r_.aq⟩:State))
 else
 some r_
 else
 bif (decide (x.deed=8))then
 aP ((0:Int)<=x.index/\x.index<(r_.on_.length:Int)) (
 some (⟨r_.am,r_.ar,r_.ap,r_.on_.set x.index.toNat (decide (x.deed=7)),r_.ae,r_.ag,r_.aq⟩:State))
 else
 some r_
 else
 bif (decide (x.deed=2))then
 aP ((0:Int)<=x.index/\x.index<(r_.am.length:Int)) (
 some (⟨r_.am.set x.index.toNat (decide (x.deed=2)),r_.ar,r_.ap,r_.on_,r_.ae,r_.ag,r_.aq⟩:State))
 else
 bif (decide (x.deed=3))then
 bif (decide (x.deed=3))then
 aP ((0:Int)<=x.index/\x.index<(r_.ag.length:Int)) (
 some (⟨r_.am,r_.ar,r_.ap,r_.on_,r_.ae,r_.ag.set x.index.toNat (decide (x.deed=3)),r_.aq⟩:State))
 else
 bif (decide (x.deed=5))then
 bif (decide (x.deed=5))then
 aP ((0:Int)<=x.index/\x.index<(r_.ar.length:Int)) (
 some (⟨r_.am,r_.ar.set x.index.toNat (decide (x.deed=5)),r_.ap,r_.on_,r_.ae,r_.ag,r_.aq⟩:State))
 else
 bif (decide (x.deed=7))then
 bif (decide (x.deed=7))then
 aP ((0:Int)<=x.index/\x.index<(r_.on_.length:Int)) (
 some (⟨r_.am,r_.ar,r_.ap,r_.on_.set x.index.toNat (decide (x.deed=7)),r_.ae,r_.ag,r_.aq⟩:State))
 else
 some r_
 else
 bif (decide (x.deed=8))then
 aP ((0:Int)<=x.index/\x.index<(r_.on_.length:Int)) (
 some (⟨r_.am,r_.ar,r_.ap,r_.on_.set x.index.toNat (decide (x.deed=7)),r_.ae,r_.ag,r_.aq⟩:State))
 else
 some r_
 else
 bif (decide (x.deed=6))then
 aP ((0:Int)<=x.index/\x.index<(r_.ar.length:Int)) (
 some (⟨r_.am,r_.ar.set x.index.toNat (decide (x.deed=5)),r_.ap,r_.on_,r_.ae,r_.ag,r_.aq⟩:State))
 else
 bif (decide (x.deed=7))then
 bif (decide (x.deed=7))then
 aP ((0:Int)<=x.index/\x.index<(r_.on_.length:Int)) (
 some (⟨r_.am,r_.ar,r_.ap,r_.on_.set x.index.toNat (decide (x.deed=7)),r_.ae,r_.ag,r_.aq⟩:State))
 else
 some r_
 else
 bif (decide (x.deed=8))then
 aP ((0:Int)<=x.index/\x.index<(r_.on_.length:Int)) (
 some (⟨r_.am,r_.ar,r_.ap,r_.on_.set x.index.toNat (decide (x.deed=7)),r_.ae,r_.ag,r_.aq⟩:State))
 else
 some r_
 else
 bif (decide (x.deed=4))then
 aP ((0:Int)<=x.index/\x.index<(r_.ag.length:Int)) (
 some (⟨r_.am,r_.ar,r_.ap,r_.on_,r_.ae,r_.ag.set x.index.toNat (decide (x.deed=3)),r_.aq⟩:State))
 else
 bif (decide (x.deed=5))then
 bif (decide (x.deed=5))then
 aP ((0:Int)<=x.index/\x.index<(r_.ar.length:Int)) (
 some (⟨r_.am,r_.ar.set x.index.toNat (decide (x.deed=5)),r_.ap,r_.on_,r_.ae,r_.ag,r_.aq⟩:State))
 else
 bif (decide (x.deed=7))then
 bif (decide (x.deed=7))then
 aP ((0:Int)<=x.index/\x.index<(r_.on_.length:Int)) (
 some (⟨r_.am,r_.ar,r_.ap,r_.on_.set x.index.toNat (decide (x.deed=7)),r_.ae,r_.ag,r_.aq⟩:State))
 else
 some r_
 else
 bif (decide (x.deed=8))then
 aP ((0:Int)<=x.index/\x.index<(r_.on_.length:Int)) (
 some (⟨r_.am,r_.ar,r_.ap,r_.on_.set x.index.toNat (decide (x.deed=7)),r_.ae,r_.ag,r_.aq⟩:State))
 else
 some r_
 else
 bif (decide (x.deed=6))then
 aP ((0:Int)<=x.index/\x.index<(r_.ar.length:Int)) (
 some (⟨r_.am,r_.ar.set x.index.toNat (decide (x.deed=5)),r_.ap,r_.on_,r_.ae,r_.ag,r_.aq⟩:State))
 else
 bif (decide (x.deed=7))then
 bif (decide (x.deed=7))then
 aP ((0:Int)<=x.index/\x.index<(r_.on_.length:Int)) (
 some (⟨r_.am,r_.ar,r_.ap,r_.on_.set x.index.toNat (decide (x.deed=7)),r_.ae,r_.ag,r_.aq⟩:State))
 else
 some r_
 else
 bif (decide (x.deed=8))then
 aP ((0:Int)<=x.index/\x.index<(r_.on_.length:Int)) (
 some (⟨r_.am,r_.ar,r_.ap,r_.on_.set x.index.toNat (decide (x.deed=7)),r_.ae,r_.ag,r_.aq⟩:State))
 else
 some r_
def gX (p:au) (s_:State) (x:af):Option (State × Int):=
 (eX p s_).bind fun r_=>
 bif (!decide (r_=0))then
 some ((⟨([]:List Bool),([]:List Bool),([]:List Bool),([]:List Bool),([]:List Bool),([]:List Bool),([]:List Bool)⟩:State),r_)
 else
 Option.bind (α:=Int) (
 (mG p x).bind fun r_1=>
 bif (!r_1)then
 some 1
 else
 (qL s_ x).bind fun r_2=>
 bif r_2 then
 some 46
 else
 aP ((gB [((bif (decide (x.deed=1))then true else(decide (x.deed=2))),true)]=true->(0:Int)<=x.index/\x.index<(s_.ap.length:Int))/\(gB [(decide (7<=x.deed),true),((bif (bif (decide (x.deed=1))then true else(decide (x.deed=2)))then(at' s_.ap x.index.toNat)else false),false)]=true->(0:Int)<=x.index/\x.index<(s_.ae.length:Int))) (
 bif (bif (bif (bif (decide (x.deed=1))then true else(decide (x.deed=2)))then(at' s_.ap x.index.toNat)else false)then true else(bif (decide (7<=x.deed))then(at' s_.ae x.index.toNat)else false))then
 some 47
 else
 aP (gB [((bif (decide (x.deed=1))then true else(decide (x.deed=2))),true)]=true->(0:Int)<=x.index/\x.index<(s_.ar.length:Int)) (
 bif (bif (bif (decide (x.deed=1))then true else(decide (x.deed=2)))then(at' s_.ar x.index.toNat)else false)then
 some 43
 else
 (bif gB [((bif (bif (decide (x.deed=1))then true else(decide (x.deed=2)))then(decide (((at' p.ac x.index.toNat).kind)=2))else false),true)]then vw p s_ x.index else some default).bind fun r_3=>
 aP (gB [((bif (decide (x.deed=1))then true else(decide (x.deed=2))),true)]=true->(0:Int)<=x.index/\x.index<(p.ac.length:Int)) (
 bif (bif (bif (bif (decide (x.deed=1))then true else(decide (x.deed=2)))then(decide (((at' p.ac x.index.toNat).kind)=2))else false)then r_3 else false)then
 some 44
 else
 some r_)))) fun e_=>
 bif (!decide (e_=0))then
 some ((⟨([]:List Bool),([]:List Bool),([]:List Bool),([]:List Bool),([]:List Bool),([]:List Bool),([]:List Bool)⟩:State),e_)
 else
 (qO s_ x).bind fun r_4=>
 some (r_4,0)
def jP (a:List Bool) (b:List Bool):Int->Option (bO Int (Ex Unit Bool)):=
 fun i=>
 bif (decide (i<(a.length:Int)))then
 aP (((0:Int)<=i/\i<(a.length:Int))/\((0:Int)<=i/\i<(b.length:Int))) (
 bif (!((at' a i.toNat)==(at' b i.toNat)))then
 some (.done (.ret false))
 else
 some (.next (IntKind.wrap .i64 (i+1))))
 else
 some (.done (.brk ()))
def cO (a:List Bool) (b:List Bool):Option Bool:=
 bif (!decide ((a.length:Int)=(b.length:Int)))then
 some false
 else
 Option.bind (aH (jP a b) FUEL (0)) fun o=>match o with
 | .ret v=>some v
 | .brk _=>
 some true
def fI (a:State) (b:State):Option Bool:=
 (cO a.am b.am).bind fun r_=>
 (bif gB [(r_,true)]then cO a.ar b.ar else some default).bind fun r_1=>
 (bif gB [((bif r_ then r_1 else false),true)]then cO a.ap b.ap else some default).bind fun r_2=>
 (bif gB [((bif (bif r_ then r_1 else false)then r_2 else false),true)]then cO a.on_ b.on_ else some default).bind fun r_3=>
 (bif gB [((bif (bif (bif r_ then r_1 else false)then r_2 else false)then r_3 else false),true)]then cO a.ae b.ae else some default).bind fun r_4=>
 (bif gB [((bif (bif (bif (bif r_ then r_1 else false)then r_2 else false)then r_3 else false)then r_4 else false),true)]then cO a.ag b.ag else some default).bind fun r_5=>
 (bif gB [((bif (bif (bif (bif (bif r_ then r_1 else false)then r_2 else false)then r_3 else false)then r_4 else false)then r_5 else false),true)]then cO a.aq b.aq else some default).bind fun r_6=>
 some (bif (bif (bif (bif (bif (bif r_ then r_1 else false)then r_2 else false)then r_3 else false)then r_4 else false)then r_5 else false)then r_6 else false)
def jW (s_:State):Option State:=
 aP ((0:Int)<=0/\0<(7:Int)) (
 (aj s_.am).bind fun r_=>
 aP ((0:Int)<=1/\1<(7:Int)) (
 (aj s_.ar).bind fun r_1=>
 aP ((0:Int)<=2/\2<(7:Int)) (
 (aj s_.ap).bind fun r_2=>
 aP ((0:Int)<=3/\3<(7:Int)) (
 (aj s_.on_).bind fun r_3=>
 aP ((0:Int)<=4/\4<(7:Int)) (
 (aj s_.ae).bind fun r_4=>
 aP ((0:Int)<=5/\5<(7:Int)) (
 (aj s_.ag).bind fun r_5=>
 aP ((0:Int)<=6/\6<(7:Int)) (
 (aj s_.aq).bind fun r_6=>
 some (⟨r_,r_1,r_2,r_3,r_4,r_5,r_6⟩:State))))))))
def kM (p:au) (s_:State) (t:Task) (x:af):Option (State × Int):=
 (uI p s_ x).bind fun r_=>
 bif (decide (r_.2=0))then
 (nR p r_.1 t).bind fun r_1=>
 some (r_.1,r_1)
 else
 some (r_.1,r_.2)
def BQ (p:au) (t:Task) (l:List af):((List Bool) × (List Bool) × (List Bool) × (List Bool) × (List Bool) × (List Bool) × (List Bool) × Int)->Option (bO ((List Bool) × (List Bool) × (List Bool) × (List Bool) × (List Bool) × (List Bool) × (List Bool) × Int) (Ex ((List Bool) × (List Bool) × (List Bool) × (List Bool) × (List Bool) × (List Bool) × (List Bool)) (Int × State × Int))):=
 fun zz=>match zz with
 |(s0,s1,s2,s3,s4,s5,s6,t31)=>
 bif (decide (t31<(l.length:Int)))then
 aP ((0:Int)<=t31/\t31<(l.length:Int)) (
 (kM p (⟨s0,s1,s2,s3,s4,s5,s6⟩:State) t (at' l t31.toNat)).bind fun r_2=>
 bif (!decide (r_2.2=0))then
 some (.done (.ret (t31,(⟨([]:List Bool),([]:List Bool),([]:List Bool),([]:List Bool),([]:List Bool),([]:List Bool),([]:List Bool)⟩:State),r_2.2)))
 else
 some (.next (r_2.1.am,r_2.1.ar,r_2.1.ap,r_2.1.on_,r_2.1.ae,r_2.1.ag,r_2.1.aq,IntKind.wrap .i64 (t31+1))))
 else
 some (.done (.brk (s0,s1,s2,s3,s4,s5,s6)))
def eT (p:au) (s_:State) (t:Task) (l:List af):Option (Int × State × Int):=
 (bG p s_ t).bind fun r_=>
 bif (!decide (r_=0))then
 some (0,(⟨([]:List Bool),([]:List Bool),([]:List Bool),([]:List Bool),([]:List Bool),([]:List Bool),([]:List Bool)⟩:State),r_)
 else
 bif (decide (256<(l.length:Int)))then
 some (0,(⟨([]:List Bool),([]:List Bool),([]:List Bool),([]:List Bool),([]:List Bool),([]:List Bool),([]:List Bool)⟩:State),2)
 else
 (jW s_).bind fun r_1=>
 Option.bind (aH (BQ p t l) FUEL (r_1.am,r_1.ar,r_1.ap,r_1.on_,r_1.ae,r_1.ag,r_1.aq,0)) fun o=>match o with
 | .ret v=>some v
 | .brk (s01,s11,s21,s31,s41,s51,s61)=>
 some ((l.length:Int),(⟨s01,s11,s21,s31,s41,s51,s61⟩:State),0)
def oh (s_:State):Option (List Bool):=
 some (G6 280 (G6 280 (G6 280 (G6 280 (G6 280 (G6 280 (G6 280 (List.replicate 280 false) 0 s_.am (Nat.min s_.am.length 280)) 40 s_.ar (Nat.min s_.ar.length 240)) 80 s_.ap (Nat.min s_.ap.length 200)) 120 s_.on_ (Nat.min s_.on_.length 160)) 160 s_.ae (Nat.min s_.ae.length 120)) 200 s_.ag (Nat.min s_.ag.length 80)) 240 s_.aq (Nat.min s_.aq.length 40))
def wz (x:af) (x1:List Bool) (x11:List Bool) (x12:List Bool) (x13:List Bool) (x14:List Bool) (x15:List Bool) (x16:List Bool):Option Bool:=
 (nV (⟨x1,x11,x12,x13,x14,x15,x16⟩:State) x).bind fun r_=>
 some (!r_)
def iA (s_:List af) (f_:List Bool) (f_1:List Bool) (f_2:List Bool) (f_3:List Bool) (f_4:List Bool) (f_5:List Bool) (f_6:List Bool):Int->Option (bO Int (Ex Unit Int)):=
 fun t8=>
 bif (decide (t8<(s_.length:Int)))then
 (wz (at' s_ t8.toNat) f_ f_1 f_2 f_3 f_4 f_5 f_6).bind fun r_=>
 aP ((0:Int)<=t8/\t8<(s_.length:Int)) (
 bif r_ then
 some (.done (.ret t8))
 else
 some (.next (IntKind.wrap .i64 (t8+1))))
 else
 some (.done (.brk ()))
def jB (s_:List af) (f_:List Bool) (f_1:List Bool) (f_2:List Bool) (f_3:List Bool) (f_4:List Bool) (f_5:List Bool) (f_6:List Bool):Option Int:=
 Option.bind (aH (iA s_ f_ f_1 f_2 f_3 f_4 f_5 f_6) FUEL (0)) fun o=>match o with
 | .ret v=>some v
 | .brk _=>
 some (-1)
def fG (s_:List af) (f_:List Bool) (f_1:List Bool) (f_2:List Bool) (f_3:List Bool) (f_4:List Bool) (f_5:List Bool) (f_6:List Bool):Option Bool:=
 (jB s_ f_ f_1 f_2 f_3 f_4 f_5 f_6).bind fun r_=>
 some (decide (0<=r_))
def mq (s_:State) (l:List af):Option Bool:=
 (fG l s_.am s_.ar s_.ap s_.on_ s_.ae s_.ag s_.aq).bind fun r_=>
 some (!r_)
def dY (s_:State) (from_:Int) (by_:af) (search:Search):Option (Bool × Search):=
 (oh s_).bind fun r_=>
 bif ((bD (sV 280) r_ search.bi).getD false)then
 some (false,search)
 else
 aP (((search.l.length+[(⟨s_,from_,by_⟩:Reached)].length)*192<=140737488355328)/\(search.l.length+[(⟨s_,from_,by_⟩:Reached)].length<=4611686018427387904)) (
 some (true,(⟨search.l++[(⟨s_,from_,by_⟩:Reached)],fH (sV 280) r_ true search.bi⟩:Search)))
def dB (search:Search):Option Unit:=
 some ()
def bW (x50:Int) (x51:List Bool) (x511:List Bool) (x512:List Bool) (x513:List Bool) (x514:List Bool) (x515:List Bool) (x516:List Bool) (plant:au) (task:Task) (int:Int) (step:List af) (state:List State) (errno:Int):((List Reached) × (List ((List Bool) × Bool)) × Int × Int)->Option (bO ((List Reached) × (List ((List Bool) × Bool)) × Int × Int) (Ex ((List Reached) × (List ((List Bool) × Bool)) × Int) (Nat × (List af) × (List State) × Int × Int × Search))):=
 fun zz=>match zz with
 |(o1200,o1201,o130,t55)=>
 bif (decide (t55<(task.ba.length:Int)))then
 aP ((0:Int)<=t55/\t55<(task.ba.length:Int)) (
 bif (decide (0<=o130))then
 some (.done (.ret (2,step,state,errno,o130,(⟨o1200,o1201⟩:Search))))
 else
 (kM plant (⟨x51,x511,x512,x513,x514,x515,x516⟩:State) task (at' task.ba t55.toNat)).bind fun r_=>
 bif (!decide (r_.2=0))then
 some (.next (o1200,o1201,o130,IntKind.wrap .i64 (t55+1)))
 else
 (dY r_.1 x50 (at' task.ba t55.toNat) (⟨o1200,o1201⟩:Search)).bind fun r_1=>
 bif (!r_1.1)then
 some (.next (r_1.2.l,r_1.2.bi,o130,IntKind.wrap .i64 (t55+1)))
 else
 bif (decide (int<(r_1.2.l.length:Int)))then
 some (.done (.ret (3,([]:List af),([]:List State),8,o130,r_1.2)))
 else
 (mq r_.1 task.bk).bind fun r_2=>
 bif r_2 then
 some (.next (r_1.2.l,r_1.2.bi,IntKind.wrap .i64 ((r_1.2.l.length:Int) - 1),IntKind.wrap .i64 (t55+1)))
 else
 some (.next (r_1.2.l,r_1.2.bi,o130,IntKind.wrap .i64 (t55+1))))
 else
 some (.done (.brk (o1200,o1201,o130)))
def cZ (x50:Int) (x51:List Bool) (x511:List Bool) (x512:List Bool) (x513:List Bool) (x514:List Bool) (x515:List Bool) (x516:List Bool) (plant:au) (task:Task) (int:Int) (step:List af) (state:List State) (errno:Int) (int1:Int) (search:Search):Option (Nat × (List af) × (List State) × Int × Int × Search):=
 Option.bind (aH (bW x50 x51 x511 x512 x513 x514 x515 x516 plant task int step state errno) FUEL (search.l,search.bi,int1,0)) fun o=>match o with
 | .ret v=>some v
 | .brk (o12001,o12011,o1301)=>
 some (0,step,state,errno,o1301,(⟨o12001,o12011⟩:Search))
def bC (plant:au) (task:Task) (int:Int):((List af) × (List State) × Int × (List Reached) × (List ((List Bool) × Bool)) × Int × Int)->Option (bO ((List af) × (List State) × Int × (List Reached) × (List ((List Bool) × Bool)) × Int × Int) (Ex ((List af) × (List State) × Int × (List Reached) × (List ((List Bool) × Bool)) × Int) (Nat × (List af) × (List State) × Int × Int × Search))):=
 fun zz=>match zz with
 |(o80,o90,o100,o1200,o1201,o130,i)=>
 bif (decide (i<(o1200.length:Int)))then
 (cZ i (((at' o1200 i.toNat).s_).am) (((at' o1200 i.toNat).s_).ar) (((at' o1200 i.toNat).s_).ap) (((at' o1200 i.toNat).s_).on_) (((at' o1200 i.toNat).s_).ae) (((at' o1200 i.toNat).s_).ag) (((at' o1200 i.toNat).s_).aq) plant task int o80 o90 o100 o130 (⟨o1200,o1201⟩:Search)).bind fun r_=>
 bif (Nat.beq r_.1 0)then
 aP ((0:Int)<=i/\i<(o1200.length:Int)) (
 some (.next (r_.2.1,r_.2.2.1,r_.2.2.2.1,r_.2.2.2.2.2.l,r_.2.2.2.2.2.bi,r_.2.2.2.2.1,IntKind.wrap .i64 (i+1))))
 else
 aP ((0:Int)<=i/\i<(o1200.length:Int)) (
 some (.done (.ret (r_.1,r_.2.1,r_.2.2.1,r_.2.2.2.1,r_.2.2.2.2.1,r_.2.2.2.2.2))))
 else
 some (.done (.brk (o80,o90,o100,o1200,o1201,o130)))
def bR (plant:au) (task:Task) (int:Int) (step:List af) (state:List State) (errno:Int) (int1:Int) (search:Search):Option (Nat × (List af) × (List State) × Int × Int × Search):=
 Option.bind (aH (bC plant task int) FUEL (step,state,errno,search.l,search.bi,int1,0)) fun o=>match o with
 | .ret v=>some v
 | .brk (o801,o901,o1001,o12001,o12011,o1301)=>
 some (0,o801,o901,o1001,o1301,(⟨o12001,o12011⟩:Search))
def eD  :((List af) × Int × Int)->Option (bO ((List af) × Int × Int) (Ex (List af) (List af))):=
 fun zz=>match zz with
 |(o_,i,j)=>
 bif (decide (i<j))then
 aP (((0:Int)<=j/\j<(o_.length:Int))/\((0:Int)<=i/\i<(o_.length:Int))) (
 some (.next ((o_.set i.toNat (at' o_ j.toNat)).set j.toNat (at' o_ i.toNat),IntKind.wrap .i64 (i+1),IntKind.wrap .i64 (j - 1))))
 else
 some (.done (.brk o_))
def jQ (s_:List af):Option (List af):=
 Option.bind (aH eD FUEL (s_,0,IntKind.wrap .i64 ((s_.length:Int) - 1))) fun o=>match o with
 | .ret v=>some v
 | .brk o_1=>
 some o_1
def eF (search:Search):(Int × (List af))->Option (bO (Int × (List af)) (Ex (List af) (List af))):=
 fun zz=>match zz with
 |(i1,out)=>
 bif (decide (0<i1))then
 aP (((0:Int)<=i1/\i1<(search.l.length:Int))/\((out.length+[(at' search.l i1.toNat).by_].length)*16<=140737488355328)/\(out.length+[(at' search.l i1.toNat).by_].length<=4611686018427387904)) (
 aP ((0:Int)<=i1/\i1<(search.l.length:Int)) (
 some (.next ((at' search.l i1.toNat).from_,out++[(at' search.l i1.toNat).by_]))))
 else
 some (.done (.brk out))
def dh (i:Int) (search:Search):Option (List af):=
 Option.bind (aH (eF search) FUEL (i,([]:List af))) fun o=>match o with
 | .ret v=>some v
 | .brk out1=>
 (jQ out1).bind fun r_=>
 aP (out1.length=r_.length) (
 some r_)
def pU (x104:Int) (x105:List Bool) (x1051:List Bool) (x1052:List Bool) (x1053:List Bool) (x1054:List Bool) (x1055:List Bool) (x1056:List Bool) (state:List State):Option (List State):=
 aP (((state.length+[(⟨x105,x1051,x1052,x1053,x1054,x1055,x1056⟩:State)].length)*168<=140737488355328)/\(state.length+[(⟨x105,x1051,x1052,x1053,x1054,x1055,x1056⟩:State)].length<=4611686018427387904)) (
 some (state++[(⟨x105,x1051,x1052,x1053,x1054,x1055,x1056⟩:State)]))
def dz (search:Search):((List State) × Int)->Option (bO ((List State) × Int) (Ex (List State) (List State))):=
 fun zz=>match zz with
 |(o200,i)=>
 bif (decide (i<(search.l.length:Int)))then
 (pU i (((at' search.l i.toNat).s_).am) (((at' search.l i.toNat).s_).ar) (((at' search.l i.toNat).s_).ap) (((at' search.l i.toNat).s_).on_) (((at' search.l i.toNat).s_).ae) (((at' search.l i.toNat).s_).ag) (((at' search.l i.toNat).s_).aq) o200).bind fun r_=>
 aP ((0:Int)<=i/\i<(search.l.length:Int)) (
 some (.next (r_,IntKind.wrap .i64 (i+1))))
 else
 some (.done (.brk o200))
def dm (state:List State) (search:Search):Option (List State):=
 Option.bind (aH (dz search) FUEL (state,0)) fun o=>match o with
 | .ret v=>some v
 | .brk o2001=>
 some o2001
def bL (p:au) (s_:State) (t:Task) (most:Int):Option ((List af) × (List State) × Int):=
 (bG p s_ t).bind fun r_=>
 bif (!decide (r_=0))then
 some (([]:List af),([]:List State),r_)
 else
 bif (bif (decide (most<1))then true else(decide (20000<most)))then
 some (([]:List af),([]:List State),1)
 else
 (jW s_).bind fun r_1=>
 (dY r_1 (-1) (⟨0,0⟩:af) (⟨([]:List Reached),([]:(List ((List Bool) × Bool)))⟩:Search)).bind fun r_2=>
 (mq s_ t.bk).bind fun r_3=>
 bif r_3 then
 (dB r_2.2).bind fun r_4=>
 (bR p t most ([]:List af) ([]:List State) 0 0 r_2.2).bind fun r_5=>
 bif Nat.beq r_5.1 0 then
 bif (decide (0<=r_5.2.2.2.2.1))then
 (dh r_5.2.2.2.2.1 r_5.2.2.2.2.2).bind fun r_6=>
 some (r_6,([]:List State),0)
 else
 (dB r_5.2.2.2.2.2).bind fun r_7=>
 (dm ([]:List State) r_5.2.2.2.2.2).bind fun r_8=>
 some (([]:List af),r_8,4)
 else
 bif Nat.beq r_5.1 2 then
 bif (decide (0<=r_5.2.2.2.2.1))then
 (dh r_5.2.2.2.2.1 r_5.2.2.2.2.2).bind fun r_9=>
 some (r_9,([]:List State),0)
 else
 (dB r_5.2.2.2.2.2).bind fun r_10=>
 (dm ([]:List State) r_5.2.2.2.2.2).bind fun r_11=>
 some (([]:List af),r_11,4)
 else
 aP (r_5.1=3) (
 some (r_5.2.1,r_5.2.2.1,r_5.2.2.2.1))
 else
 (dB r_2.2).bind fun r_12=>
 (bR p t most ([]:List af) ([]:List State) 0 (-1) r_2.2).bind fun r_13=>
 bif Nat.beq r_13.1 0 then
 bif (decide (0<=r_13.2.2.2.2.1))then
 (dh r_13.2.2.2.2.1 r_13.2.2.2.2.2).bind fun r_14=>
 some (r_14,([]:List State),0)
 else
 (dB r_13.2.2.2.2.2).bind fun r_15=>
 (dm ([]:List State) r_13.2.2.2.2.2).bind fun r_16=>
 some (([]:List af),r_16,4)
 else
 bif Nat.beq r_13.1 2 then
 bif (decide (0<=r_13.2.2.2.2.1))then
 (dh r_13.2.2.2.2.1 r_13.2.2.2.2.2).bind fun r_17=>
 some (r_17,([]:List State),0)
 else
 (dB r_13.2.2.2.2.2).bind fun r_18=>
 (dm ([]:List State) r_13.2.2.2.2.2).bind fun r_19=>
 some (([]:List af),r_19,4)
 else
 aP (r_13.1=3) (
 some (r_13.2.1,r_13.2.2.1,r_13.2.2.2.1))
def dI (p:au) (t:Task) (l:List State):((List Reached) × (List ((List Bool) × Bool)) × Int)->Option (bO ((List Reached) × (List ((List Bool) × Bool)) × Int) (Ex ((List Reached) × (List ((List Bool) × Bool))) Int)):=
 fun zz=>match zz with
 |(x0,x1,t34)=>
 bif (decide (t34<(l.length:Int)))then
 aP ((0:Int)<=t34/\t34<(l.length:Int)) (
 (bG p (at' l t34.toNat) t).bind fun r_1=>
 (bif gB [(!decide (r_1=0),false)]then mq (at' l t34.toNat) t.bk else some default).bind fun r_2=>
 bif (bif (!decide (r_1=0))then true else r_2)then
 some (.done (.ret 7))
 else
 (dY (at' l t34.toNat) (-1) (⟨0,0⟩:af) (⟨x0,x1⟩:Search)).bind fun r_3=>
 some (.next (r_3.2.l,r_3.2.bi,IntKind.wrap .i64 (t34+1))))
 else
 some (.done (.brk (x0,x1)))
def lV (p:au) (t:Task) (l:List State) (x11:List ((List Bool) × Bool)) (t64:Int):Int->Option (bO Int (Ex Unit (bO Int (Ex Unit Int)))):=
 fun t71=>
 bif (decide (t71<(t.ba.length:Int)))then
 aP ((0:Int)<=t71/\t71<(t.ba.length:Int)) (
 (kM p (at' l t64.toNat) t (at' t.ba t71.toNat)).bind fun r_5=>
 (bif gB [(decide (r_5.2=0),true)]then oh r_5.1 else some default).bind fun r_6=>
 bif (bif (decide (r_5.2=0))then(!((bD (sV 280) r_6 x11).getD false))else false)then
 some (.done (.ret (.done (.ret 7))))
 else
 some (.next (IntKind.wrap .i64 (t71+1))))
 else
 some (.done (.brk ()))
def l8 (p:au) (t:Task) (l:List State) (x11:List ((List Bool) × Bool)):Int->Option (bO Int (Ex Unit Int)):=
 fun t64=>
 bif (decide (t64<(l.length:Int)))then
 aP ((0:Int)<=t64/\t64<(l.length:Int)) (
 Option.bind (aH (lV p t l x11 t64) FUEL (0)) fun o=>match o with
 | .ret v=>some v
 | .brk _=>
 some (.next (IntKind.wrap .i64 (t64+1))))
 else
 some (.done (.brk ()))
def fF (p:au) (s_:State) (t:Task) (l:List State):Option Int:=
 (bG p s_ t).bind fun r_=>
 bif (!decide (r_=0))then
 some r_
 else
 bif (decide (20000<(l.length:Int)))then
 some 2
 else
 Option.bind (aH (dI p t l) FUEL (([]:List Reached),([]:(List ((List Bool) × Bool))),0)) fun o=>match o with
 | .ret v=>some v
 | .brk (x01,x11)=>
 (oh s_).bind fun r_4=>
 bif (!((bD (sV 280) r_4 x11).getD false))then
 some 7
 else
 Option.bind (aH (l8 p t l x11) FUEL (0)) fun o=>match o with
 | .ret v=>some v
 | .brk _=>
 some 0
def Bz (a:List af) (b:List af):Int->Option (bO Int (Ex Unit Bool)):=
 fun i=>
 bif (decide (i<(a.length:Int)))then
 aP (((0:Int)<=i/\i<(a.length:Int))/\((0:Int)<=i/\i<(b.length:Int))) (
 bif (!((decide (((at' a i.toNat).deed)=((at' b i.toNat).deed))) && ((decide (((at' a i.toNat).index)=((at' b i.toNat).index))) && true)))then
 some (.done (.ret false))
 else
 some (.next (IntKind.wrap .i64 (i+1))))
 else
 some (.done (.brk ()))
def rD (a:List af) (b:List af):Option Bool:=
 bif (!decide ((a.length:Int)=(b.length:Int)))then
 some false
 else
 Option.bind (aH (Bz a b) FUEL (0)) fun o=>match o with
 | .ret v=>some v
 | .brk _=>
 some true
def nW:Option Bool:=
 (kT).bind fun r_=>
 (bL r_.1 r_.2 (⟨([]:List Int),([]:List Int),[(⟨1,0⟩:af),(⟨2,0⟩:af),(⟨1,1⟩:af),(⟨2,1⟩:af)],[(⟨1,1⟩:af)]⟩:Task) 100).bind fun r_1=>
 (eY r_.1 r_.2 (⟨1,1⟩:af)).bind fun r_2=>
 bif (bif (bif (!decide (r_1.2.2=0))then true else(!decide (r_2.2=44)))then true else(!decide ((r_1.2.1.length:Int)=0)))then
 some false
 else
 (rD r_1.1 [(⟨1,0⟩:af),(⟨1,1⟩:af)]).bind fun r_3=>
 bif (!r_3)then
 some false
 else
 (eT r_.1 r_.2 (⟨([]:List Int),([]:List Int),([]:List af),([]:List af)⟩:Task) r_1.1).bind fun r_4=>
 bif (bif (!decide (r_4.2.2=0))then true else(!decide (r_4.1=2)))then
 some false
 else
 (cO r_4.2.1.am [false,false]).bind fun r_5=>
 bif (bif (bif (!r_5)then true else(!decide ((r_4.2.1.ar.length:Int)=2)))then true else(!decide ((r_4.2.1.ag.length:Int)=3)))then
 some false
 else
 (bL r_.1 r_.2 (⟨[0],([]:List Int),[(⟨1,0⟩:af),(⟨2,0⟩:af),(⟨1,1⟩:af),(⟨2,1⟩:af)],[(⟨1,1⟩:af)]⟩:Task) 100).bind fun r_6=>
 bif (bif (!decide (r_6.2.2=4))then true else(!decide ((r_6.2.1.length:Int)=1)))then
 some false
 else
 (fF r_.1 r_.2 (⟨[0],([]:List Int),[(⟨1,0⟩:af),(⟨2,0⟩:af),(⟨1,1⟩:af),(⟨2,1⟩:af)],[(⟨1,1⟩:af)]⟩:Task) r_6.2.1).bind fun r_7=>
 bif (!decide (r_7=0))then
 some false
 else
 aP (((0:Int)<=1/\1<(r_4.2.1.ar.length:Int))/\((0:Int)<=2/\2<(r_4.2.1.ag.length:Int))) (
 (eY r_.1 (⟨r_4.2.1.am,r_4.2.1.ar.set 1 true,r_4.2.1.ap,r_4.2.1.on_,r_4.2.1.ae,r_4.2.1.ag.set 2 true,r_4.2.1.aq⟩:State) (⟨2,1⟩:af)).bind fun r_8=>
 (eT r_.1 (⟨r_4.2.1.am,r_4.2.1.ar.set 1 true,r_4.2.1.ap,r_4.2.1.on_,r_4.2.1.ae,r_4.2.1.ag.set 2 true,r_4.2.1.aq⟩:State) (⟨([]:List Int),[2],([]:List af),([]:List af)⟩:Task) [(⟨6,1⟩:af)]).bind fun r_9=>
 bif (bif (bif (decide (r_8.2=43))then(decide (r_9.1=0))else false)then(decide (r_9.2.2=45))else false)then
 (bG r_.1 (⟨r_4.2.1.am,r_4.2.1.ar.set 1 true,r_4.2.1.ap,r_4.2.1.on_,r_4.2.1.ae,r_4.2.1.ag.set 2 true,r_4.2.1.aq⟩:State) (⟨([]:List Int),[2],([]:List af),([]:List af)⟩:Task)).bind fun r_10=>
 some (decide (r_10=0))
 else
 some false)
def fO (r_:au × State):Int->Option (bO Int (Ex Unit Bool)):=
 fun n=>
 bif (decide (n<4096))then
 Option.bind (α:=(Ex Unit (bO Int (Ex Unit Bool)))) (
 aP ((7≠(0:Int))/\(4≠(0:Int))) (
 bif (decide ((Int.tmod (IntKind.wrap .i64 (Int.tdiv n 7)) 4)=1))then
 aP ((10≠(0:Int))/\(3≠(0:Int))/\(6≠(0:Int))) (
 (fq (⟨[0],([]:List Int),([]:List af),([]:List af)⟩:Task)).bind fun r_1=>
 (gJ [0] r_1.fed).bind fun r_2=>
 (bif gB [(!r_2,false)]then fq (⟨[0],([]:List Int),([]:List af),([]:List af)⟩:Task)else some default).bind fun r_3=>
 (bif gB [(!r_2,false)]then bG (⟨4,r_.1.aa++[(⟨3,2,5,1,10⟩:Source)],r_.1.ac++[(⟨2,3,1,5,10,([]:List gT)⟩:Link)],r_.1.a_⟩:au) (⟨[decide ((IntKind.wrap .i64 (((BitVec.ofInt (IntKind.bits .i64) n &&& BitVec.ofInt (IntKind.bits .i64) 1).toNat:Int)))=1),decide ((IntKind.wrap .i64 (((BitVec.ofInt (IntKind.bits .i64) n &&& BitVec.ofInt (IntKind.bits .i64) 2).toNat:Int)))=2),true],[decide ((IntKind.wrap .i64 (((BitVec.ofInt (IntKind.bits .i64) n &&& BitVec.ofInt (IntKind.bits .i64) 4).toNat:Int)))=4),decide ((IntKind.wrap .i64 (((BitVec.ofInt (IntKind.bits .i64) n &&& BitVec.ofInt (IntKind.bits .i64) 8).toNat:Int)))=8),false],[false,decide ((IntKind.wrap .i64 (((BitVec.ofInt (IntKind.bits .i64) n &&& BitVec.ofInt (IntKind.bits .i64) 16).toNat:Int)))=16),decide ((IntKind.wrap .i64 (((BitVec.ofInt (IntKind.bits .i64) n &&& BitVec.ofInt (IntKind.bits .i64) 2048).toNat:Int)))=2048)],[decide ((IntKind.wrap .i64 (((BitVec.ofInt (IntKind.bits .i64) n &&& BitVec.ofInt (IntKind.bits .i64) 32).toNat:Int)))=32),decide ((IntKind.wrap .i64 (((BitVec.ofInt (IntKind.bits .i64) n &&& BitVec.ofInt (IntKind.bits .i64) 64).toNat:Int)))=64)],[false,decide ((IntKind.wrap .i64 (((BitVec.ofInt (IntKind.bits .i64) n &&& BitVec.ofInt (IntKind.bits .i64) 128).toNat:Int)))=128)],[false,decide ((IntKind.wrap .i64 (((BitVec.ofInt (IntKind.bits .i64) n &&& BitVec.ofInt (IntKind.bits .i64) 256).toNat:Int)))=256),decide ((IntKind.wrap .i64 (((BitVec.ofInt (IntKind.bits .i64) n &&& BitVec.ofInt (IntKind.bits .i64) 512).toNat:Int)))=512),false],[false,false,decide ((IntKind.wrap .i64 (((BitVec.ofInt (IntKind.bits .i64) n &&& BitVec.ofInt (IntKind.bits .i64) 1024).toNat:Int)))=1024),false]⟩:State) r_3 else some default).bind fun r_4=>
 (bif gB [(!r_2,false)]then d9 (⟨4,r_.1.aa++[(⟨3,2,5,1,10⟩:Source)],r_.1.ac++[(⟨2,3,1,5,10,([]:List gT)⟩:Link)],r_.1.a_⟩:au) (⟨[decide ((IntKind.wrap .i64 (((BitVec.ofInt (IntKind.bits .i64) n &&& BitVec.ofInt (IntKind.bits .i64) 1).toNat:Int)))=1),decide ((IntKind.wrap .i64 (((BitVec.ofInt (IntKind.bits .i64) n &&& BitVec.ofInt (IntKind.bits .i64) 2).toNat:Int)))=2),true],[decide ((IntKind.wrap .i64 (((BitVec.ofInt (IntKind.bits .i64) n &&& BitVec.ofInt (IntKind.bits .i64) 4).toNat:Int)))=4),decide ((IntKind.wrap .i64 (((BitVec.ofInt (IntKind.bits .i64) n &&& BitVec.ofInt (IntKind.bits .i64) 8).toNat:Int)))=8),false],[false,decide ((IntKind.wrap .i64 (((BitVec.ofInt (IntKind.bits .i64) n &&& BitVec.ofInt (IntKind.bits .i64) 16).toNat:Int)))=16),decide ((IntKind.wrap .i64 (((BitVec.ofInt (IntKind.bits .i64) n &&& BitVec.ofInt (IntKind.bits .i64) 2048).toNat:Int)))=2048)],[decide ((IntKind.wrap .i64 (((BitVec.ofInt (IntKind.bits .i64) n &&& BitVec.ofInt (IntKind.bits .i64) 32).toNat:Int)))=32),decide ((IntKind.wrap .i64 (((BitVec.ofInt (IntKind.bits .i64) n &&& BitVec.ofInt (IntKind.bits .i64) 64).toNat:Int)))=64)],[false,decide ((IntKind.wrap .i64 (((BitVec.ofInt (IntKind.bits .i64) n &&& BitVec.ofInt (IntKind.bits .i64) 128).toNat:Int)))=128)],[false,decide ((IntKind.wrap .i64 (((BitVec.ofInt (IntKind.bits .i64) n &&& BitVec.ofInt (IntKind.bits .i64) 256).toNat:Int)))=256),decide ((IntKind.wrap .i64 (((BitVec.ofInt (IntKind.bits .i64) n &&& BitVec.ofInt (IntKind.bits .i64) 512).toNat:Int)))=512),false],[false,false,decide ((IntKind.wrap .i64 (((BitVec.ofInt (IntKind.bits .i64) n &&& BitVec.ofInt (IntKind.bits .i64) 1024).toNat:Int)))=1024),false]⟩:State) (⟨[0],([]:List Int),([]:List af),([]:List af)⟩:Task)else some default).bind fun r_5=>
 bif (bif (!r_2)then true else(!decide (r_4=r_5)))then
 some (.ret (.done (.ret false)))
 else
 (eY (⟨4,r_.1.aa++[(⟨3,2,5,1,10⟩:Source)],r_.1.ac++[(⟨2,3,1,5,10,([]:List gT)⟩:Link)],r_.1.a_⟩:au) (⟨[decide ((IntKind.wrap .i64 (((BitVec.ofInt (IntKind.bits .i64) n &&& BitVec.ofInt (IntKind.bits .i64) 1).toNat:Int)))=1),decide ((IntKind.wrap .i64 (((BitVec.ofInt (IntKind.bits .i64) n &&& BitVec.ofInt (IntKind.bits .i64) 2).toNat:Int)))=2),true],[decide ((IntKind.wrap .i64 (((BitVec.ofInt (IntKind.bits .i64) n &&& BitVec.ofInt (IntKind.bits .i64) 4).toNat:Int)))=4),decide ((IntKind.wrap .i64 (((BitVec.ofInt (IntKind.bits .i64) n &&& BitVec.ofInt (IntKind.bits .i64) 8).toNat:Int)))=8),false],[false,decide ((IntKind.wrap .i64 (((BitVec.ofInt (IntKind.bits .i64) n &&& BitVec.ofInt (IntKind.bits .i64) 16).toNat:Int)))=16),decide ((IntKind.wrap .i64 (((BitVec.ofInt (IntKind.bits .i64) n &&& BitVec.ofInt (IntKind.bits .i64) 2048).toNat:Int)))=2048)],[decide ((IntKind.wrap .i64 (((BitVec.ofInt (IntKind.bits .i64) n &&& BitVec.ofInt (IntKind.bits .i64) 32).toNat:Int)))=32),decide ((IntKind.wrap .i64 (((BitVec.ofInt (IntKind.bits .i64) n &&& BitVec.ofInt (IntKind.bits .i64) 64).toNat:Int)))=64)],[false,decide ((IntKind.wrap .i64 (((BitVec.ofInt (IntKind.bits .i64) n &&& BitVec.ofInt (IntKind.bits .i64) 128).toNat:Int)))=128)],[false,decide ((IntKind.wrap .i64 (((BitVec.ofInt (IntKind.bits .i64) n &&& BitVec.ofInt (IntKind.bits .i64) 256).toNat:Int)))=256),decide ((IntKind.wrap .i64 (((BitVec.ofInt (IntKind.bits .i64) n &&& BitVec.ofInt (IntKind.bits .i64) 512).toNat:Int)))=512),false],[false,false,decide ((IntKind.wrap .i64 (((BitVec.ofInt (IntKind.bits .i64) n &&& BitVec.ofInt (IntKind.bits .i64) 1024).toNat:Int)))=1024),false]⟩:State) (⟨Int.tmod (IntKind.wrap .i64 (n*5)) 10,IntKind.wrap .i64 ((Int.tmod (IntKind.wrap .i64 (Int.tdiv n 3)) 6) - 1)⟩:af)).bind fun r_6=>
 (gX (⟨4,r_.1.aa++[(⟨3,2,5,1,10⟩:Source)],r_.1.ac++[(⟨2,3,1,5,10,([]:List gT)⟩:Link)],r_.1.a_⟩:au) (⟨[decide ((IntKind.wrap .i64 (((BitVec.ofInt (IntKind.bits .i64) n &&& BitVec.ofInt (IntKind.bits .i64) 1).toNat:Int)))=1),decide ((IntKind.wrap .i64 (((BitVec.ofInt (IntKind.bits .i64) n &&& BitVec.ofInt (IntKind.bits .i64) 2).toNat:Int)))=2),true],[decide ((IntKind.wrap .i64 (((BitVec.ofInt (IntKind.bits .i64) n &&& BitVec.ofInt (IntKind.bits .i64) 4).toNat:Int)))=4),decide ((IntKind.wrap .i64 (((BitVec.ofInt (IntKind.bits .i64) n &&& BitVec.ofInt (IntKind.bits .i64) 8).toNat:Int)))=8),false],[false,decide ((IntKind.wrap .i64 (((BitVec.ofInt (IntKind.bits .i64) n &&& BitVec.ofInt (IntKind.bits .i64) 16).toNat:Int)))=16),decide ((IntKind.wrap .i64 (((BitVec.ofInt (IntKind.bits .i64) n &&& BitVec.ofInt (IntKind.bits .i64) 2048).toNat:Int)))=2048)],[decide ((IntKind.wrap .i64 (((BitVec.ofInt (IntKind.bits .i64) n &&& BitVec.ofInt (IntKind.bits .i64) 32).toNat:Int)))=32),decide ((IntKind.wrap .i64 (((BitVec.ofInt (IntKind.bits .i64) n &&& BitVec.ofInt (IntKind.bits .i64) 64).toNat:Int)))=64)],[false,decide ((IntKind.wrap .i64 (((BitVec.ofInt (IntKind.bits .i64) n &&& BitVec.ofInt (IntKind.bits .i64) 128).toNat:Int)))=128)],[false,decide ((IntKind.wrap .i64 (((BitVec.ofInt (IntKind.bits .i64) n &&& BitVec.ofInt (IntKind.bits .i64) 256).toNat:Int)))=256),decide ((IntKind.wrap .i64 (((BitVec.ofInt (IntKind.bits .i64) n &&& BitVec.ofInt (IntKind.bits .i64) 512).toNat:Int)))=512),false],[false,false,decide ((IntKind.wrap .i64 (((BitVec.ofInt (IntKind.bits .i64) n &&& BitVec.ofInt (IntKind.bits .i64) 1024).toNat:Int)))=1024),false]⟩:State) (⟨Int.tmod (IntKind.wrap .i64 (n*5)) 10,IntKind.wrap .i64 ((Int.tmod (IntKind.wrap .i64 (Int.tdiv n 3)) 6) - 1)⟩:af)).bind fun r_7=>
 (bif gB [(!decide (r_6.2=r_7.2),false)]then fI r_6.1 r_7.1 else some default).bind fun r_8=>
 bif (bif (!decide (r_6.2=r_7.2))then true else(!r_8))then
 some (.ret (.done (.ret false)))
 else
 some (.brk ()))
 else
 bif (decide ((Int.tmod (IntKind.wrap .i64 (Int.tdiv n 7)) 4)=2))then
 aP ((10≠(0:Int))/\(3≠(0:Int))/\(6≠(0:Int))) (
 (fq (⟨([]:List Int),[2,3],([]:List af),([]:List af)⟩:Task)).bind fun r_9=>
 (gJ ([]:List Int) r_9.fed).bind fun r_10=>
 (bif gB [(!r_10,false)]then fq (⟨([]:List Int),[2,3],([]:List af),([]:List af)⟩:Task)else some default).bind fun r_11=>
 (bif gB [(!r_10,false)]then bG (⟨4,r_.1.aa++[(⟨3,2,5,1,10⟩:Source)],r_.1.ac++[(⟨2,3,1,5,10,([]:List gT)⟩:Link)],r_.1.a_⟩:au) (⟨[decide ((IntKind.wrap .i64 (((BitVec.ofInt (IntKind.bits .i64) n &&& BitVec.ofInt (IntKind.bits .i64) 1).toNat:Int)))=1),decide ((IntKind.wrap .i64 (((BitVec.ofInt (IntKind.bits .i64) n &&& BitVec.ofInt (IntKind.bits .i64) 2).toNat:Int)))=2),true],[decide ((IntKind.wrap .i64 (((BitVec.ofInt (IntKind.bits .i64) n &&& BitVec.ofInt (IntKind.bits .i64) 4).toNat:Int)))=4),decide ((IntKind.wrap .i64 (((BitVec.ofInt (IntKind.bits .i64) n &&& BitVec.ofInt (IntKind.bits .i64) 8).toNat:Int)))=8),false],[false,decide ((IntKind.wrap .i64 (((BitVec.ofInt (IntKind.bits .i64) n &&& BitVec.ofInt (IntKind.bits .i64) 16).toNat:Int)))=16),decide ((IntKind.wrap .i64 (((BitVec.ofInt (IntKind.bits .i64) n &&& BitVec.ofInt (IntKind.bits .i64) 2048).toNat:Int)))=2048)],[decide ((IntKind.wrap .i64 (((BitVec.ofInt (IntKind.bits .i64) n &&& BitVec.ofInt (IntKind.bits .i64) 32).toNat:Int)))=32),decide ((IntKind.wrap .i64 (((BitVec.ofInt (IntKind.bits .i64) n &&& BitVec.ofInt (IntKind.bits .i64) 64).toNat:Int)))=64)],[false,decide ((IntKind.wrap .i64 (((BitVec.ofInt (IntKind.bits .i64) n &&& BitVec.ofInt (IntKind.bits .i64) 128).toNat:Int)))=128)],[false,decide ((IntKind.wrap .i64 (((BitVec.ofInt (IntKind.bits .i64) n &&& BitVec.ofInt (IntKind.bits .i64) 256).toNat:Int)))=256),decide ((IntKind.wrap .i64 (((BitVec.ofInt (IntKind.bits .i64) n &&& BitVec.ofInt (IntKind.bits .i64) 512).toNat:Int)))=512),false],[false,false,decide ((IntKind.wrap .i64 (((BitVec.ofInt (IntKind.bits .i64) n &&& BitVec.ofInt (IntKind.bits .i64) 1024).toNat:Int)))=1024),false]⟩:State) r_11 else some default).bind fun r_12=>
 (bif gB [(!r_10,false)]then d9 (⟨4,r_.1.aa++[(⟨3,2,5,1,10⟩:Source)],r_.1.ac++[(⟨2,3,1,5,10,([]:List gT)⟩:Link)],r_.1.a_⟩:au) (⟨[decide ((IntKind.wrap .i64 (((BitVec.ofInt (IntKind.bits .i64) n &&& BitVec.ofInt (IntKind.bits .i64) 1).toNat:Int)))=1),decide ((IntKind.wrap .i64 (((BitVec.ofInt (IntKind.bits .i64) n &&& BitVec.ofInt (IntKind.bits .i64) 2).toNat:Int)))=2),true],[decide ((IntKind.wrap .i64 (((BitVec.ofInt (IntKind.bits .i64) n &&& BitVec.ofInt (IntKind.bits .i64) 4).toNat:Int)))=4),decide ((IntKind.wrap .i64 (((BitVec.ofInt (IntKind.bits .i64) n &&& BitVec.ofInt (IntKind.bits .i64) 8).toNat:Int)))=8),false],[false,decide ((IntKind.wrap .i64 (((BitVec.ofInt (IntKind.bits .i64) n &&& BitVec.ofInt (IntKind.bits .i64) 16).toNat:Int)))=16),decide ((IntKind.wrap .i64 (((BitVec.ofInt (IntKind.bits .i64) n &&& BitVec.ofInt (IntKind.bits .i64) 2048).toNat:Int)))=2048)],[decide ((IntKind.wrap .i64 (((BitVec.ofInt (IntKind.bits .i64) n &&& BitVec.ofInt (IntKind.bits .i64) 32).toNat:Int)))=32),decide ((IntKind.wrap .i64 (((BitVec.ofInt (IntKind.bits .i64) n &&& BitVec.ofInt (IntKind.bits .i64) 64).toNat:Int)))=64)],[false,decide ((IntKind.wrap .i64 (((BitVec.ofInt (IntKind.bits .i64) n &&& BitVec.ofInt (IntKind.bits .i64) 128).toNat:Int)))=128)],[false,decide ((IntKind.wrap .i64 (((BitVec.ofInt (IntKind.bits .i64) n &&& BitVec.ofInt (IntKind.bits .i64) 256).toNat:Int)))=256),decide ((IntKind.wrap .i64 (((BitVec.ofInt (IntKind.bits .i64) n &&& BitVec.ofInt (IntKind.bits .i64) 512).toNat:Int)))=512),false],[false,false,decide ((IntKind.wrap .i64 (((BitVec.ofInt (IntKind.bits .i64) n &&& BitVec.ofInt (IntKind.bits .i64) 1024).toNat:Int)))=1024),false]⟩:State) (⟨([]:List Int),[2,3],([]:List af),([]:List af)⟩:Task)else some default).bind fun r_13=>
 bif (bif (!r_10)then true else(!decide (r_12=r_13)))then
 some (.ret (.done (.ret false)))
 else
 (eY (⟨4,r_.1.aa++[(⟨3,2,5,1,10⟩:Source)],r_.1.ac++[(⟨2,3,1,5,10,([]:List gT)⟩:Link)],r_.1.a_⟩:au) (⟨[decide ((IntKind.wrap .i64 (((BitVec.ofInt (IntKind.bits .i64) n &&& BitVec.ofInt (IntKind.bits .i64) 1).toNat:Int)))=1),decide ((IntKind.wrap .i64 (((BitVec.ofInt (IntKind.bits .i64) n &&& BitVec.ofInt (IntKind.bits .i64) 2).toNat:Int)))=2),true],[decide ((IntKind.wrap .i64 (((BitVec.ofInt (IntKind.bits .i64) n &&& BitVec.ofInt (IntKind.bits .i64) 4).toNat:Int)))=4),decide ((IntKind.wrap .i64 (((BitVec.ofInt (IntKind.bits .i64) n &&& BitVec.ofInt (IntKind.bits .i64) 8).toNat:Int)))=8),false],[false,decide ((IntKind.wrap .i64 (((BitVec.ofInt (IntKind.bits .i64) n &&& BitVec.ofInt (IntKind.bits .i64) 16).toNat:Int)))=16),decide ((IntKind.wrap .i64 (((BitVec.ofInt (IntKind.bits .i64) n &&& BitVec.ofInt (IntKind.bits .i64) 2048).toNat:Int)))=2048)],[decide ((IntKind.wrap .i64 (((BitVec.ofInt (IntKind.bits .i64) n &&& BitVec.ofInt (IntKind.bits .i64) 32).toNat:Int)))=32),decide ((IntKind.wrap .i64 (((BitVec.ofInt (IntKind.bits .i64) n &&& BitVec.ofInt (IntKind.bits .i64) 64).toNat:Int)))=64)],[false,decide ((IntKind.wrap .i64 (((BitVec.ofInt (IntKind.bits .i64) n &&& BitVec.ofInt (IntKind.bits .i64) 128).toNat:Int)))=128)],[false,decide ((IntKind.wrap .i64 (((BitVec.ofInt (IntKind.bits .i64) n &&& BitVec.ofInt (IntKind.bits .i64) 256).toNat:Int)))=256),decide ((IntKind.wrap .i64 (((BitVec.ofInt (IntKind.bits .i64) n &&& BitVec.ofInt (IntKind.bits .i64) 512).toNat:Int)))=512),false],[false,false,decide ((IntKind.wrap .i64 (((BitVec.ofInt (IntKind.bits .i64) n &&& BitVec.ofInt (IntKind.bits .i64) 1024).toNat:Int)))=1024),false]⟩:State) (⟨Int.tmod (IntKind.wrap .i64 (n*5)) 10,IntKind.wrap .i64 ((Int.tmod (IntKind.wrap .i64 (Int.tdiv n 3)) 6) - 1)⟩:af)).bind fun r_14=>
 (gX (⟨4,r_.1.aa++[(⟨3,2,5,1,10⟩:Source)],r_.1.ac++[(⟨2,3,1,5,10,([]:List gT)⟩:Link)],r_.1.a_⟩:au) (⟨[decide ((IntKind.wrap .i64 (((BitVec.ofInt (IntKind.bits .i64) n &&& BitVec.ofInt (IntKind.bits .i64) 1).toNat:Int)))=1),decide ((IntKind.wrap .i64 (((BitVec.ofInt (IntKind.bits .i64) n &&& BitVec.ofInt (IntKind.bits .i64) 2).toNat:Int)))=2),true],[decide ((IntKind.wrap .i64 (((BitVec.ofInt (IntKind.bits .i64) n &&& BitVec.ofInt (IntKind.bits .i64) 4).toNat:Int)))=4),decide ((IntKind.wrap .i64 (((BitVec.ofInt (IntKind.bits .i64) n &&& BitVec.ofInt (IntKind.bits .i64) 8).toNat:Int)))=8),false],[false,decide ((IntKind.wrap .i64 (((BitVec.ofInt (IntKind.bits .i64) n &&& BitVec.ofInt (IntKind.bits .i64) 16).toNat:Int)))=16),decide ((IntKind.wrap .i64 (((BitVec.ofInt (IntKind.bits .i64) n &&& BitVec.ofInt (IntKind.bits .i64) 2048).toNat:Int)))=2048)],[decide ((IntKind.wrap .i64 (((BitVec.ofInt (IntKind.bits .i64) n &&& BitVec.ofInt (IntKind.bits .i64) 32).toNat:Int)))=32),decide ((IntKind.wrap .i64 (((BitVec.ofInt (IntKind.bits .i64) n &&& BitVec.ofInt (IntKind.bits .i64) 64).toNat:Int)))=64)],[false,decide ((IntKind.wrap .i64 (((BitVec.ofInt (IntKind.bits .i64) n &&& BitVec.ofInt (IntKind.bits .i64) 128).toNat:Int)))=128)],[false,decide ((IntKind.wrap .i64 (((BitVec.ofInt (IntKind.bits .i64) n &&& BitVec.ofInt (IntKind.bits .i64) 256).toNat:Int)))=256),decide ((IntKind.wrap .i64 (((BitVec.ofInt (IntKind.bits .i64) n &&& BitVec.ofInt (IntKind.bits .i64) 512).toNat:Int)))=512),false],[false,false,decide ((IntKind.wrap .i64 (((BitVec.ofInt (IntKind.bits .i64) n &&& BitVec.ofInt (IntKind.bits .i64) 1024).toNat:Int)))=1024),false]⟩:State) (⟨Int.tmod (IntKind.wrap .i64 (n*5)) 10,IntKind.wrap .i64 ((Int.tmod (IntKind.wrap .i64 (Int.tdiv n 3)) 6) - 1)⟩:af)).bind fun r_15=>
 (bif gB [(!decide (r_14.2=r_15.2),false)]then fI r_14.1 r_15.1 else some default).bind fun r_16=>
 bif (bif (!decide (r_14.2=r_15.2))then true else(!r_16))then
 some (.ret (.done (.ret false)))
 else
 some (.brk ()))
 else
 bif (decide ((Int.tmod (IntKind.wrap .i64 (Int.tdiv n 7)) 4)=3))then
 aP ((10≠(0:Int))/\(3≠(0:Int))/\(6≠(0:Int))) (
 (fq (⟨([]:List Int),[1],([]:List af),([]:List af)⟩:Task)).bind fun r_17=>
 (gJ ([]:List Int) r_17.fed).bind fun r_18=>
 (bif gB [(!r_18,false)]then fq (⟨([]:List Int),[1],([]:List af),([]:List af)⟩:Task)else some default).bind fun r_19=>
 (bif gB [(!r_18,false)]then bG (⟨4,r_.1.aa++[(⟨3,2,5,1,10⟩:Source)],r_.1.ac++[(⟨2,3,1,5,10,([]:List gT)⟩:Link)],r_.1.a_⟩:au) (⟨[decide ((IntKind.wrap .i64 (((BitVec.ofInt (IntKind.bits .i64) n &&& BitVec.ofInt (IntKind.bits .i64) 1).toNat:Int)))=1),decide ((IntKind.wrap .i64 (((BitVec.ofInt (IntKind.bits .i64) n &&& BitVec.ofInt (IntKind.bits .i64) 2).toNat:Int)))=2),true],[decide ((IntKind.wrap .i64 (((BitVec.ofInt (IntKind.bits .i64) n &&& BitVec.ofInt (IntKind.bits .i64) 4).toNat:Int)))=4),decide ((IntKind.wrap .i64 (((BitVec.ofInt (IntKind.bits .i64) n &&& BitVec.ofInt (IntKind.bits .i64) 8).toNat:Int)))=8),false],[false,decide ((IntKind.wrap .i64 (((BitVec.ofInt (IntKind.bits .i64) n &&& BitVec.ofInt (IntKind.bits .i64) 16).toNat:Int)))=16),decide ((IntKind.wrap .i64 (((BitVec.ofInt (IntKind.bits .i64) n &&& BitVec.ofInt (IntKind.bits .i64) 2048).toNat:Int)))=2048)],[decide ((IntKind.wrap .i64 (((BitVec.ofInt (IntKind.bits .i64) n &&& BitVec.ofInt (IntKind.bits .i64) 32).toNat:Int)))=32),decide ((IntKind.wrap .i64 (((BitVec.ofInt (IntKind.bits .i64) n &&& BitVec.ofInt (IntKind.bits .i64) 64).toNat:Int)))=64)],[false,decide ((IntKind.wrap .i64 (((BitVec.ofInt (IntKind.bits .i64) n &&& BitVec.ofInt (IntKind.bits .i64) 128).toNat:Int)))=128)],[false,decide ((IntKind.wrap .i64 (((BitVec.ofInt (IntKind.bits .i64) n &&& BitVec.ofInt (IntKind.bits .i64) 256).toNat:Int)))=256),decide ((IntKind.wrap .i64 (((BitVec.ofInt (IntKind.bits .i64) n &&& BitVec.ofInt (IntKind.bits .i64) 512).toNat:Int)))=512),false],[false,false,decide ((IntKind.wrap .i64 (((BitVec.ofInt (IntKind.bits .i64) n &&& BitVec.ofInt (IntKind.bits .i64) 1024).toNat:Int)))=1024),false]⟩:State) r_19 else some default).bind fun r_20=>
 (bif gB [(!r_18,false)]then d9 (⟨4,r_.1.aa++[(⟨3,2,5,1,10⟩:Source)],r_.1.ac++[(⟨2,3,1,5,10,([]:List gT)⟩:Link)],r_.1.a_⟩:au) (⟨[decide ((IntKind.wrap .i64 (((BitVec.ofInt (IntKind.bits .i64) n &&& BitVec.ofInt (IntKind.bits .i64) 1).toNat:Int)))=1),decide ((IntKind.wrap .i64 (((BitVec.ofInt (IntKind.bits .i64) n &&& BitVec.ofInt (IntKind.bits .i64) 2).toNat:Int)))=2),true],[decide ((IntKind.wrap .i64 (((BitVec.ofInt (IntKind.bits .i64) n &&& BitVec.ofInt (IntKind.bits .i64) 4).toNat:Int)))=4),decide ((IntKind.wrap .i64 (((BitVec.ofInt (IntKind.bits .i64) n &&& BitVec.ofInt (IntKind.bits .i64) 8).toNat:Int)))=8),false],[false,decide ((IntKind.wrap .i64 (((BitVec.ofInt (IntKind.bits .i64) n &&& BitVec.ofInt (IntKind.bits .i64) 16).toNat:Int)))=16),decide ((IntKind.wrap .i64 (((BitVec.ofInt (IntKind.bits .i64) n &&& BitVec.ofInt (IntKind.bits .i64) 2048).toNat:Int)))=2048)],[decide ((IntKind.wrap .i64 (((BitVec.ofInt (IntKind.bits .i64) n &&& BitVec.ofInt (IntKind.bits .i64) 32).toNat:Int)))=32),decide ((IntKind.wrap .i64 (((BitVec.ofInt (IntKind.bits .i64) n &&& BitVec.ofInt (IntKind.bits .i64) 64).toNat:Int)))=64)],[false,decide ((IntKind.wrap .i64 (((BitVec.ofInt (IntKind.bits .i64) n &&& BitVec.ofInt (IntKind.bits .i64) 128).toNat:Int)))=128)],[false,decide ((IntKind.wrap .i64 (((BitVec.ofInt (IntKind.bits .i64) n &&& BitVec.ofInt (IntKind.bits .i64) 256).toNat:Int)))=256),decide ((IntKind.wrap .i64 (((BitVec.ofInt (IntKind.bits .i64) n &&& BitVec.ofInt (IntKind.bits .i64) 512).toNat:Int)))=512),false],[false,false,decide ((IntKind.wrap .i64 (((BitVec.ofInt (IntKind.bits .i64) n &&& BitVec.ofInt (IntKind.bits .i64) 1024).toNat:Int)))=1024),false]⟩:State) (⟨([]:List Int),[1],([]:List af),([]:List af)⟩:Task)else some default).bind fun r_21=>
 bif (bif (!r_18)then true else(!decide (r_20=r_21)))then
 some (.ret (.done (.ret false)))
 else
 (eY (⟨4,r_.1.aa++[(⟨3,2,5,1,10⟩:Source)],r_.1.ac++[(⟨2,3,1,5,10,([]:List gT)⟩:Link)],r_.1.a_⟩:au) (⟨[decide ((IntKind.wrap .i64 (((BitVec.ofInt (IntKind.bits .i64) n &&& BitVec.ofInt (IntKind.bits .i64) 1).toNat:Int)))=1),decide ((IntKind.wrap .i64 (((BitVec.ofInt (IntKind.bits .i64) n &&& BitVec.ofInt (IntKind.bits .i64) 2).toNat:Int)))=2),true],[decide ((IntKind.wrap .i64 (((BitVec.ofInt (IntKind.bits .i64) n &&& BitVec.ofInt (IntKind.bits .i64) 4).toNat:Int)))=4),decide ((IntKind.wrap .i64 (((BitVec.ofInt (IntKind.bits .i64) n &&& BitVec.ofInt (IntKind.bits .i64) 8).toNat:Int)))=8),false],[false,decide ((IntKind.wrap .i64 (((BitVec.ofInt (IntKind.bits .i64) n &&& BitVec.ofInt (IntKind.bits .i64) 16).toNat:Int)))=16),decide ((IntKind.wrap .i64 (((BitVec.ofInt (IntKind.bits .i64) n &&& BitVec.ofInt (IntKind.bits .i64) 2048).toNat:Int)))=2048)],[decide ((IntKind.wrap .i64 (((BitVec.ofInt (IntKind.bits .i64) n &&& BitVec.ofInt (IntKind.bits .i64) 32).toNat:Int)))=32),decide ((IntKind.wrap .i64 (((BitVec.ofInt (IntKind.bits .i64) n &&& BitVec.ofInt (IntKind.bits .i64) 64).toNat:Int)))=64)],[false,decide ((IntKind.wrap .i64 (((BitVec.ofInt (IntKind.bits .i64) n &&& BitVec.ofInt (IntKind.bits .i64) 128).toNat:Int)))=128)],[false,decide ((IntKind.wrap .i64 (((BitVec.ofInt (IntKind.bits .i64) n &&& BitVec.ofInt (IntKind.bits .i64) 256).toNat:Int)))=256),decide ((IntKind.wrap .i64 (((BitVec.ofInt (IntKind.bits .i64) n &&& BitVec.ofInt (IntKind.bits .i64) 512).toNat:Int)))=512),false],[false,false,decide ((IntKind.wrap .i64 (((BitVec.ofInt (IntKind.bits .i64) n &&& BitVec.ofInt (IntKind.bits .i64) 1024).toNat:Int)))=1024),false]⟩:State) (⟨Int.tmod (IntKind.wrap .i64 (n*5)) 10,IntKind.wrap .i64 ((Int.tmod (IntKind.wrap .i64 (Int.tdiv n 3)) 6) - 1)⟩:af)).bind fun r_22=>
 (gX (⟨4,r_.1.aa++[(⟨3,2,5,1,10⟩:Source)],r_.1.ac++[(⟨2,3,1,5,10,([]:List gT)⟩:Link)],r_.1.a_⟩:au) (⟨[decide ((IntKind.wrap .i64 (((BitVec.ofInt (IntKind.bits .i64) n &&& BitVec.ofInt (IntKind.bits .i64) 1).toNat:Int)))=1),decide ((IntKind.wrap .i64 (((BitVec.ofInt (IntKind.bits .i64) n &&& BitVec.ofInt (IntKind.bits .i64) 2).toNat:Int)))=2),true],[decide ((IntKind.wrap .i64 (((BitVec.ofInt (IntKind.bits .i64) n &&& BitVec.ofInt (IntKind.bits .i64) 4).toNat:Int)))=4),decide ((IntKind.wrap .i64 (((BitVec.ofInt (IntKind.bits .i64) n &&& BitVec.ofInt (IntKind.bits .i64) 8).toNat:Int)))=8),false],[false,decide ((IntKind.wrap .i64 (((BitVec.ofInt (IntKind.bits .i64) n &&& BitVec.ofInt (IntKind.bits .i64) 16).toNat:Int)))=16),decide ((IntKind.wrap .i64 (((BitVec.ofInt (IntKind.bits .i64) n &&& BitVec.ofInt (IntKind.bits .i64) 2048).toNat:Int)))=2048)],[decide ((IntKind.wrap .i64 (((BitVec.ofInt (IntKind.bits .i64) n &&& BitVec.ofInt (IntKind.bits .i64) 32).toNat:Int)))=32),decide ((IntKind.wrap .i64 (((BitVec.ofInt (IntKind.bits .i64) n &&& BitVec.ofInt (IntKind.bits .i64) 64).toNat:Int)))=64)],[false,decide ((IntKind.wrap .i64 (((BitVec.ofInt (IntKind.bits .i64) n &&& BitVec.ofInt (IntKind.bits .i64) 128).toNat:Int)))=128)],[false,decide ((IntKind.wrap .i64 (((BitVec.ofInt (IntKind.bits .i64) n &&& BitVec.ofInt (IntKind.bits .i64) 256).toNat:Int)))=256),decide ((IntKind.wrap .i64 (((BitVec.ofInt (IntKind.bits .i64) n &&& BitVec.ofInt (IntKind.bits .i64) 512).toNat:Int)))=512),false],[false,false,decide ((IntKind.wrap .i64 (((BitVec.ofInt (IntKind.bits .i64) n &&& BitVec.ofInt (IntKind.bits .i64) 1024).toNat:Int)))=1024),false]⟩:State) (⟨Int.tmod (IntKind.wrap .i64 (n*5)) 10,IntKind.wrap .i64 ((Int.tmod (IntKind.wrap .i64 (Int.tdiv n 3)) 6) - 1)⟩:af)).bind fun r_23=>
 (bif gB [(!decide (r_22.2=r_23.2),false)]then fI r_22.1 r_23.1 else some default).bind fun r_24=>
 bif (bif (!decide (r_22.2=r_23.2))then true else(!r_24))then
 some (.ret (.done (.ret false)))
 else
 some (.brk ()))
 else
 aP ((10≠(0:Int))/\(3≠(0:Int))/\(6≠(0:Int))) (
 (fq (⟨([]:List Int),([]:List Int),([]:List af),([]:List af)⟩:Task)).bind fun r_25=>
 (gJ ([]:List Int) r_25.fed).bind fun r_26=>
 (bif gB [(!r_26,false)]then fq (⟨([]:List Int),([]:List Int),([]:List af),([]:List af)⟩:Task)else some default).bind fun r_27=>
 (bif gB [(!r_26,false)]then bG (⟨4,r_.1.aa++[(⟨3,2,5,1,10⟩:Source)],r_.1.ac++[(⟨2,3,1,5,10,([]:List gT)⟩:Link)],r_.1.a_⟩:au) (⟨[decide ((IntKind.wrap .i64 (((BitVec.ofInt (IntKind.bits .i64) n &&& BitVec.ofInt (IntKind.bits .i64) 1).toNat:Int)))=1),decide ((IntKind.wrap .i64 (((BitVec.ofInt (IntKind.bits .i64) n &&& BitVec.ofInt (IntKind.bits .i64) 2).toNat:Int)))=2),true],[decide ((IntKind.wrap .i64 (((BitVec.ofInt (IntKind.bits .i64) n &&& BitVec.ofInt (IntKind.bits .i64) 4).toNat:Int)))=4),decide ((IntKind.wrap .i64 (((BitVec.ofInt (IntKind.bits .i64) n &&& BitVec.ofInt (IntKind.bits .i64) 8).toNat:Int)))=8),false],[false,decide ((IntKind.wrap .i64 (((BitVec.ofInt (IntKind.bits .i64) n &&& BitVec.ofInt (IntKind.bits .i64) 16).toNat:Int)))=16),decide ((IntKind.wrap .i64 (((BitVec.ofInt (IntKind.bits .i64) n &&& BitVec.ofInt (IntKind.bits .i64) 2048).toNat:Int)))=2048)],[decide ((IntKind.wrap .i64 (((BitVec.ofInt (IntKind.bits .i64) n &&& BitVec.ofInt (IntKind.bits .i64) 32).toNat:Int)))=32),decide ((IntKind.wrap .i64 (((BitVec.ofInt (IntKind.bits .i64) n &&& BitVec.ofInt (IntKind.bits .i64) 64).toNat:Int)))=64)],[false,decide ((IntKind.wrap .i64 (((BitVec.ofInt (IntKind.bits .i64) n &&& BitVec.ofInt (IntKind.bits .i64) 128).toNat:Int)))=128)],[false,decide ((IntKind.wrap .i64 (((BitVec.ofInt (IntKind.bits .i64) n &&& BitVec.ofInt (IntKind.bits .i64) 256).toNat:Int)))=256),decide ((IntKind.wrap .i64 (((BitVec.ofInt (IntKind.bits .i64) n &&& BitVec.ofInt (IntKind.bits .i64) 512).toNat:Int)))=512),false],[false,false,decide ((IntKind.wrap .i64 (((BitVec.ofInt (IntKind.bits .i64) n &&& BitVec.ofInt (IntKind.bits .i64) 1024).toNat:Int)))=1024),false]⟩:State) r_27 else some default).bind fun r_28=>
 (bif gB [(!r_26,false)]then d9 (⟨4,r_.1.aa++[(⟨3,2,5,1,10⟩:Source)],r_.1.ac++[(⟨2,3,1,5,10,([]:List gT)⟩:Link)],r_.1.a_⟩:au) (⟨[decide ((IntKind.wrap .i64 (((BitVec.ofInt (IntKind.bits .i64) n &&& BitVec.ofInt (IntKind.bits .i64) 1).toNat:Int)))=1),decide ((IntKind.wrap .i64 (((BitVec.ofInt (IntKind.bits .i64) n &&& BitVec.ofInt (IntKind.bits .i64) 2).toNat:Int)))=2),true],[decide ((IntKind.wrap .i64 (((BitVec.ofInt (IntKind.bits .i64) n &&& BitVec.ofInt (IntKind.bits .i64) 4).toNat:Int)))=4),decide ((IntKind.wrap .i64 (((BitVec.ofInt (IntKind.bits .i64) n &&& BitVec.ofInt (IntKind.bits .i64) 8).toNat:Int)))=8),false],[false,decide ((IntKind.wrap .i64 (((BitVec.ofInt (IntKind.bits .i64) n &&& BitVec.ofInt (IntKind.bits .i64) 16).toNat:Int)))=16),decide ((IntKind.wrap .i64 (((BitVec.ofInt (IntKind.bits .i64) n &&& BitVec.ofInt (IntKind.bits .i64) 2048).toNat:Int)))=2048)],[decide ((IntKind.wrap .i64 (((BitVec.ofInt (IntKind.bits .i64) n &&& BitVec.ofInt (IntKind.bits .i64) 32).toNat:Int)))=32),decide ((IntKind.wrap .i64 (((BitVec.ofInt (IntKind.bits .i64) n &&& BitVec.ofInt (IntKind.bits .i64) 64).toNat:Int)))=64)],[false,decide ((IntKind.wrap .i64 (((BitVec.ofInt (IntKind.bits .i64) n &&& BitVec.ofInt (IntKind.bits .i64) 128).toNat:Int)))=128)],[false,decide ((IntKind.wrap .i64 (((BitVec.ofInt (IntKind.bits .i64) n &&& BitVec.ofInt (IntKind.bits .i64) 256).toNat:Int)))=256),decide ((IntKind.wrap .i64 (((BitVec.ofInt (IntKind.bits .i64) n &&& BitVec.ofInt (IntKind.bits .i64) 512).toNat:Int)))=512),false],[false,false,decide ((IntKind.wrap .i64 (((BitVec.ofInt (IntKind.bits .i64) n &&& BitVec.ofInt (IntKind.bits .i64) 1024).toNat:Int)))=1024),false]⟩:State) (⟨([]:List Int),([]:List Int),([]:List af),([]:List af)⟩:Task)else some default).bind fun r_29=>
 bif (bif (!r_26)then true else(!decide (r_28=r_29)))then
 some (.ret (.done (.ret false)))
 else
 (eY (⟨4,r_.1.aa++[(⟨3,2,5,1,10⟩:Source)],r_.1.ac++[(⟨2,3,1,5,10,([]:List gT)⟩:Link)],r_.1.a_⟩:au) (⟨[decide ((IntKind.wrap .i64 (((BitVec.ofInt (IntKind.bits .i64) n &&& BitVec.ofInt (IntKind.bits .i64) 1).toNat:Int)))=1),decide ((IntKind.wrap .i64 (((BitVec.ofInt (IntKind.bits .i64) n &&& BitVec.ofInt (IntKind.bits .i64) 2).toNat:Int)))=2),true],[decide ((IntKind.wrap .i64 (((BitVec.ofInt (IntKind.bits .i64) n &&& BitVec.ofInt (IntKind.bits .i64) 4).toNat:Int)))=4),decide ((IntKind.wrap .i64 (((BitVec.ofInt (IntKind.bits .i64) n &&& BitVec.ofInt (IntKind.bits .i64) 8).toNat:Int)))=8),false],[false,decide ((IntKind.wrap .i64 (((BitVec.ofInt (IntKind.bits .i64) n &&& BitVec.ofInt (IntKind.bits .i64) 16).toNat:Int)))=16),decide ((IntKind.wrap .i64 (((BitVec.ofInt (IntKind.bits .i64) n &&& BitVec.ofInt (IntKind.bits .i64) 2048).toNat:Int)))=2048)],[decide ((IntKind.wrap .i64 (((BitVec.ofInt (IntKind.bits .i64) n &&& BitVec.ofInt (IntKind.bits .i64) 32).toNat:Int)))=32),decide ((IntKind.wrap .i64 (((BitVec.ofInt (IntKind.bits .i64) n &&& BitVec.ofInt (IntKind.bits .i64) 64).toNat:Int)))=64)],[false,decide ((IntKind.wrap .i64 (((BitVec.ofInt (IntKind.bits .i64) n &&& BitVec.ofInt (IntKind.bits .i64) 128).toNat:Int)))=128)],[false,decide ((IntKind.wrap .i64 (((BitVec.ofInt (IntKind.bits .i64) n &&& BitVec.ofInt (IntKind.bits .i64) 256).toNat:Int)))=256),decide ((IntKind.wrap .i64 (((BitVec.ofInt (IntKind.bits .i64) n &&& BitVec.ofInt (IntKind.bits .i64) 512).toNat:Int)))=512),false],[false,false,decide ((IntKind.wrap .i64 (((BitVec.ofInt (IntKind.bits .i64) n &&& BitVec.ofInt (IntKind.bits .i64) 1024).toNat:Int)))=1024),false]⟩:State) (⟨Int.tmod (IntKind.wrap .i64 (n*5)) 10,IntKind.wrap .i64 ((Int.tmod (IntKind.wrap .i64 (Int.tdiv n 3)) 6) - 1)⟩:af)).bind fun r_30=>
 (gX (⟨4,r_.1.aa++[(⟨3,2,5,1,10⟩:Source)],r_.1.ac++[(⟨2,3,1,5,10,([]:List gT)⟩:Link)],r_.1.a_⟩:au) (⟨[decide ((IntKind.wrap .i64 (((BitVec.ofInt (IntKind.bits .i64) n &&& BitVec.ofInt (IntKind.bits .i64) 1).toNat:Int)))=1),decide ((IntKind.wrap .i64 (((BitVec.ofInt (IntKind.bits .i64) n &&& BitVec.ofInt (IntKind.bits .i64) 2).toNat:Int)))=2),true],[decide ((IntKind.wrap .i64 (((BitVec.ofInt (IntKind.bits .i64) n &&& BitVec.ofInt (IntKind.bits .i64) 4).toNat:Int)))=4),decide ((IntKind.wrap .i64 (((BitVec.ofInt (IntKind.bits .i64) n &&& BitVec.ofInt (IntKind.bits .i64) 8).toNat:Int)))=8),false],[false,decide ((IntKind.wrap .i64 (((BitVec.ofInt (IntKind.bits .i64) n &&& BitVec.ofInt (IntKind.bits .i64) 16).toNat:Int)))=16),decide ((IntKind.wrap .i64 (((BitVec.ofInt (IntKind.bits .i64) n &&& BitVec.ofInt (IntKind.bits .i64) 2048).toNat:Int)))=2048)],[decide ((IntKind.wrap .i64 (((BitVec.ofInt (IntKind.bits .i64) n &&& BitVec.ofInt (IntKind.bits .i64) 32).toNat:Int)))=32),decide ((IntKind.wrap .i64 (((BitVec.ofInt (IntKind.bits .i64) n &&& BitVec.ofInt (IntKind.bits .i64) 64).toNat:Int)))=64)],[false,decide ((IntKind.wrap .i64 (((BitVec.ofInt (IntKind.bits .i64) n &&& BitVec.ofInt (IntKind.bits .i64) 128).toNat:Int)))=128)],[false,decide ((IntKind.wrap .i64 (((BitVec.ofInt (IntKind.bits .i64) n &&& BitVec.ofInt (IntKind.bits .i64) 256).toNat:Int)))=256),decide ((IntKind.wrap .i64 (((BitVec.ofInt (IntKind.bits .i64) n &&& BitVec.ofInt (IntKind.bits .i64) 512).toNat:Int)))=512),false],[false,false,decide ((IntKind.wrap .i64 (((BitVec.ofInt (IntKind.bits .i64) n &&& BitVec.ofInt (IntKind.bits .i64) 1024).toNat:Int)))=1024),false]⟩:State) (⟨Int.tmod (IntKind.wrap .i64 (n*5)) 10,IntKind.wrap .i64 ((Int.tmod (IntKind.wrap .i64 (Int.tdiv n 3)) 6) - 1)⟩:af)).bind fun r_31=>
 (bif gB [(!decide (r_30.2=r_31.2),false)]then fI r_30.1 r_31.1 else some default).bind fun r_32=>
 bif (bif (!decide (r_30.2=r_31.2))then true else(!r_32))then
 some (.ret (.done (.ret false)))
 else
 some (.brk ())))) fun o=>match o with
 | .ret v=>some v
 | .brk _=>
 some (.next (IntKind.wrap .i64 (n+1)))
 else
 some (.done (.brk ()))
def fP  :((List af) × Int)->Option (bO ((List af) × Int) (Ex (List af) Bool)):=
 fun zz=>match zz with
 |(l,i)=>
 bif (decide (i<128))then
 aP (((l.length+[(⟨1,0⟩:af),(⟨2,0⟩:af)].length)*16<=140737488355328)/\(l.length+[(⟨1,0⟩:af),(⟨2,0⟩:af)].length<=4611686018427387904)) (
 some (.next (l++[(⟨1,0⟩:af),(⟨2,0⟩:af)],IntKind.wrap .i64 (i+1))))
 else
 some (.done (.brk l))
def jv (c0:Option (au × State)) (c1:Option Bool):Option Bool:=
 (c0).bind fun r_=>
 aP (((r_.1.ac.length+[(⟨2,3,1,5,10,([]:List gT)⟩:Link)].length)*64<=140737488355328)/\(r_.1.ac.length+[(⟨2,3,1,5,10,([]:List gT)⟩:Link)].length<=4611686018427387904)) (
 aP (((r_.1.aa.length+[(⟨3,2,5,1,10⟩:Source)].length)*40<=140737488355328)/\(r_.1.aa.length+[(⟨3,2,5,1,10⟩:Source)].length<=4611686018427387904)) (
 Option.bind (aH (fO r_) FUEL (0)) fun o=>match o with
 | .ret v=>some v
 | .brk _=>
 (c0).bind fun r_33=>
 Option.bind (aH fP FUEL (([]:List af),0)) fun o=>match o with
 | .ret v=>some v
 | .brk l1=>
 (eT r_33.1 r_33.2 (⟨([]:List Int),([]:List Int),([]:List af),([]:List af)⟩:Task) l1).bind fun r_34=>
 (eT r_33.1 r_33.2 (⟨([]:List Int),([]:List Int),([]:List af),([]:List af)⟩:Task) (l1++[(⟨1,0⟩:af)])).bind fun r_35=>
 aP ((0<l1.length)/\((l1.length+([(⟨1,0⟩:af)].length))*16<=140737488355328)/\(l1.length+([(⟨1,0⟩:af)].length)<=4611686018427387904)) (
 (bL r_33.1 r_33.2 (⟨([]:List Int),([]:List Int),vN l1 0 25,([]:List af)⟩:Task) 5).bind fun r_36=>
 aP ((0:Int)<=(25:Int)/\(25:Int)<=(l1.length:Int)) (
 (bL r_33.1 r_33.2 (⟨([]:List Int),([]:List Int),vN l1 0 24,[(⟨3,0⟩:af)]⟩:Task) 1).bind fun r_37=>
 aP ((0:Int)<=(24:Int)/\(24:Int)<=(l1.length:Int)) (
 (bL r_33.1 r_33.2 (⟨([]:List Int),([]:List Int),vN l1 0 24,[(⟨3,0⟩:af)]⟩:Task) 2).bind fun r_38=>
 aP ((0:Int)<=(24:Int)/\(24:Int)<=(l1.length:Int)) (
 bif (bif (bif (bif (bif (bif (bif (bif (decide (r_34.1=256))then(decide (r_34.2.2=0))else false)then(decide (r_35.1=0))else false)then(decide (r_35.2.2=2))else false)then(decide (r_36.2.2=1))else false)then(decide (r_37.2.2=8))else false)then(decide (r_38.2.2=4))else false)then(decide ((r_38.2.1.length:Int)=2))else false)then
 (fF r_33.1 r_33.2 (⟨([]:List Int),([]:List Int),([]:List af),([]:List af)⟩:Task) (List.replicate 20001 ((⟨([]:List Bool),([]:List Bool),([]:List Bool),([]:List Bool),([]:List Bool),([]:List Bool),([]:List Bool)⟩:State):State))).bind fun r_39=>
 (bif gB [(decide (r_39=2),true)]then c1 else some default).bind fun r_40=>
 aP ((gB [(true,true)]=true->(0:Int)<=20001)/\(gB [(true,true)]=true->(168:Int)*20001<=281474976710656)/\(gB [(true,true)]=true->(20001:Int)<=9223372036854775807)) (
 some (bif (decide (r_39=2))then r_40 else false))
 else
 some false))))))
def kL:Option Bool:=jv kT nW
end Sg
