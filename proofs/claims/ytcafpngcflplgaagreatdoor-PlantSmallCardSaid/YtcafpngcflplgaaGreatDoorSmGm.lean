import Derived.Test.YtcafpngcflplgaaGreatDoorSmLf
import Derived.Test.YtcafpngcflplgaaGreatDoorSmLg
set_option linter.all false
namespace Sg
open Go
structure Source where
 bus:Int
 kind:Int
 power:Int
 bk:Int
 ohm:Int
instance:Inhabited Source:=⟨⟨default,default,default,default,default⟩⟩
def Source.cell (x:Source):Nat->DV
 |0=>(.int .i64 x.bus)
 |1=>(.int .i64 x.kind)
 |2=>(.int .i64 x.power)
 |3=>(.int .i64 x.bk)
 |4=>(.int .i64 x.ohm)
 |_=> .nilp
structure au where
 bp:Int
 bj:Int
instance:Inhabited au:=⟨⟨default,default⟩⟩
def au.cell (x:au):Nat->DV
 |0=>(.int .i64 x.bp)
 |1=>(.int .i64 x.bj)
 |_=> .nilp
structure Link where
 a:Int
 b:Int
 kind:Int
 most:Int
 ohm:Int
 trip:(List au)
instance:Inhabited Link:=⟨⟨default,default,default,default,default,default⟩⟩
def Link.cell (x:Link):Nat->DV
 |0=>(.int .i64 x.a)
 |1=>(.int .i64 x.b)
 |2=>(.int .i64 x.kind)
 |3=>(.int .i64 x.most)
 |4=>(.int .i64 x.ohm)
 |5=>(bR none 2 au.cell x.trip)
 |_=> .nilp
structure ah where
 e0:Int
 e1:Int
instance:Inhabited ah:=⟨⟨default,default⟩⟩
def ah.cell (x:ah):Nat->DV
 |0=>(.int .i64 x.e0)
 |1=>(.int .i64 x.e1)
 |_=> .nilp
structure aD where
 aw:ah
 power:Int
 bi:Int
instance:Inhabited aD:=⟨⟨default,default,default⟩⟩
def aD.cell (x:aD):Nat->DV
 |0=>(.int .i64 x.aw.e0)
 |1=>(.int .i64 x.aw.e1)
 |2=>(.int .i64 x.power)
 |3=>(.int .i64 x.bi)
 |_=> .nilp
structure af where
 ag:Int
 aa:(List Source)
 ae:(List Link)
 ac:(List aD)
instance:Inhabited af:=⟨⟨default,default,default,default⟩⟩
def af.cell (x:af):Nat->DV
 |0=>(.int .i64 x.ag)
 |1=>(bR none 5 Source.cell x.aa)
 |2=>(bR none 6 Link.cell x.ae)
 |3=>(bR none 4 aD.cell x.ac)
 |_=> .nilp
structure State where
 a_:(List Bool)
 bh:(List Bool)
 aq:(List Bool)
 on_:(List Bool)
 am:(List Bool)
 ba:(List Bool)
 ap:(List Bool)
instance:Inhabited State:=⟨⟨default,default,default,default,default,default,default⟩⟩
def State.cell (x:State):Nat->DV
 |0=>(bR none 1 av x.a_)
 |1=>(bR none 1 av x.bh)
 |2=>(bR none 1 av x.aq)
 |3=>(bR none 1 av x.on_)
 |4=>(bR none 1 av x.am)
 |5=>(bR none 1 av x.ba)
 |6=>(bR none 1 av x.ap)
 |_=> .nilp
structure gD where
 l:(List Bool)
 n:Int
instance:Inhabited gD:=⟨⟨default,default⟩⟩
def gD.cell (x:gD):Nat->DV
 |0=>(bR none 1 av x.l)
 |1=>(.int .i64 x.n)
 |_=> .nilp
structure aM where
 head:(List (Int × Int))
instance:Inhabited aM:=⟨⟨default⟩⟩
def aM.cell (x:aM):Nat->DV
 |0=> .nilp
 |_=> .nilp
structure ai where
 ag:(List Int)
 aa:(List Int)
instance:Inhabited ai:=⟨⟨default,default⟩⟩
def ai.cell (x:ai):Nat->DV
 |0=>(bR none 1 (aN .i64) x.ag)
 |1=>(bR none 1 (aN .i64) x.aa)
 |_=> .nilp
structure aV where
 e0:Bool
 e1:Bool
instance:Inhabited aV:=⟨⟨default,default⟩⟩
def aV.cell (x:aV):Nat->DV
 |0=>(.bool x.e0)
 |1=>(.bool x.e1)
 |_=> .nilp
structure Part where
 kind:Int
 index:Int
instance:Inhabited Part:=⟨⟨default,default⟩⟩
def Part.cell (x:Part):Nat->DV
 |0=>(.int .i64 x.kind)
 |1=>(.int .i64 x.index)
 |_=> .nilp
def ai.ev (x:ai):Nat->EV
 |0=> .row 3 1 x.ag.length (aj (aN .i64) x.ag)
 |1=> .row 3 1 x.aa.length (aj (aN .i64) x.aa)
 |_=> .d .nilp
def kV:Option af:=
 some (⟨3,[(⟨0,1,500,0,20⟩:Source),(⟨2,2,300,0,40⟩:Source)],[(⟨0,1,3,400,10,[(⟨1000,400⟩:au),(⟨5000,50⟩:au)]⟩:Link),(⟨1,2,3,400,10,([]:List au)⟩:Link)],[(⟨(⟨1,-1⟩:ah),100,1⟩:aD)]⟩:af)
def aT (n:Int) (first:Int) (last:Int):Option Bool:=
 some (bif (decide (first<=n))then(decide (n<=last))else false)
def pM (p:af):Option (Int × (List Source) × (List Link) × (List aD)):=
 some (p.ag,p.aa,p.ae,p.ac)
def sK (p:af):Option (Int × (List Source) × (List Link) × (List aD)):=
 some (p.ag,p.aa,p.ae,p.ac)
def tu (p:af):Option (Int × (List Source) × (List Link) × (List aD)):=
 some (p.ag,p.aa,p.ae,p.ac)
def kr (x:Source) (x1:Int) (x11:List Source) (x12:List Link) (x13:List aD):Option Bool:=
 (aT x.bus 0 (IntKind.wrap .i64 (x1 - 1))).bind fun r_=>
 (bif gB [(r_,true)]then aT x.kind 1 3 else some default).bind fun r_1=>
 (bif gB [((bif r_ then r_1 else false),true)]then aT x.power 1 100000 else some default).bind fun r_2=>
 (bif gB [((bif (bif r_ then r_1 else false)then r_2 else false),true)]then aT x.bk 0 8 else some default).bind fun r_3=>
 (bif gB [((bif (bif (bif r_ then r_1 else false)then r_2 else false)then r_3 else false),true)]then aT x.ohm 10 100000 else some default).bind fun r_4=>
 some (bif (bif (bif (bif r_ then r_1 else false)then r_2 else false)then r_3 else false)then r_4 else false)
def pV (x:Source) (x1:Int) (x11:List Source) (x12:List Link) (x13:List aD):Option Bool:=
 (kr x x1 x11 x12 x13).bind fun r_=>
 some (!r_)
def jE (s_:List Source) (f_:Int) (f_1:List Source) (f_2:List Link) (f_3:List aD):Int->Option (bC Int (Ex Unit Int)):=
 fun t8=>
 bif (decide (t8<(s_.length:Int)))then
 (pV (at' s_ t8.toNat) f_ f_1 f_2 f_3).bind fun r_=>
 aX ((0:Int)<=t8/\t8<(s_.length:Int)) (
 bif r_ then
 some (.done (.ret t8))
 else
 some (.next (IntKind.wrap .i64 (t8+1))))
 else
 some (.done (.brk ()))
def lD (s_:List Source) (f_:Int) (f_1:List Source) (f_2:List Link) (f_3:List aD):Option Int:=
 Option.bind (aI (jE s_ f_ f_1 f_2 f_3) FUEL (0)) fun o=>match o with
 | .ret v=>some v
 | .brk _=>
 some (-1)
def gL (s_:List Source) (f_:Int) (f_1:List Source) (f_2:List Link) (f_3:List aD):Option Bool:=
 (lD s_ f_ f_1 f_2 f_3).bind fun r_=>
 some (decide (0<=r_))
def ow (l:List Source) (most:Int) (right:Int) (right1:List Source) (right2:List Link) (right3:List aD):Option Bool:=
 (bif gB [(decide ((l.length:Int)<=most),true)]then gL l right right1 right2 right3 else some default).bind fun r_=>
 some (bif (decide ((l.length:Int)<=most))then(!r_)else false)
def jT (x:Link):Int->Option (bC Int (Ex Unit Bool)):=
 fun t50=>
 bif (decide (t50<(x.trip.length:Int)))then
 aX ((0:Int)<=t50/\t50<(x.trip.length:Int)) (
 (aT ((at' x.trip t50.toNat).bp) 1 1000000).bind fun r_5=>
 (bif gB [(!r_5,false)]then aT ((at' x.trip t50.toNat).bj) 1 100000 else some default).bind fun r_6=>
 aX ((gB [(decide (0<t50),true),((bif (!r_5)then true else(!r_6)),false)]=true->(0:Int)<=(IntKind.wrap .i64 (t50 - 1))/\(IntKind.wrap .i64 (t50 - 1))<(x.trip.length:Int))/\(gB [(decide (((at' x.trip t50.toNat).bp)<=((at' x.trip ((IntKind.wrap .i64 (t50 - 1)).toNat)).bp)),false),(decide (0<t50),true),((bif (!r_5)then true else(!r_6)),false)]=true->(0:Int)<=(IntKind.wrap .i64 (t50 - 1))/\(IntKind.wrap .i64 (t50 - 1))<(x.trip.length:Int))) (
 bif (bif (bif (!r_5)then true else(!r_6))then true else(bif (decide (0<t50))then(bif (decide (((at' x.trip t50.toNat).bp)<=((at' x.trip ((IntKind.wrap .i64 (t50 - 1)).toNat)).bp)))then true else(decide (((at' x.trip ((IntKind.wrap .i64 (t50 - 1)).toNat)).bj)<=((at' x.trip t50.toNat).bj))))else false))then
 some (.done (.ret false))
 else
 some (.next (IntKind.wrap .i64 (t50+1)))))
 else
 some (.done (.brk ()))
def lY (x:Link) (x1:Int) (x11:List Source) (x12:List Link) (x13:List aD):Option Bool:=
 (aT x.a 0 (IntKind.wrap .i64 (x1 - 1))).bind fun r_=>
 (bif gB [(!r_,false)]then aT x.b 0 (IntKind.wrap .i64 (x1 - 1))else some default).bind fun r_1=>
 (bif gB [((bif (bif (!r_)then true else(!r_1))then true else(decide (x.a=x.b))),false)]then aT x.kind 1 3 else some default).bind fun r_2=>
 (bif gB [((bif (bif (bif (!r_)then true else(!r_1))then true else(decide (x.a=x.b)))then true else(!r_2)),false)]then aT x.most 1 100000 else some default).bind fun r_3=>
 (bif gB [((bif (bif (bif (bif (!r_)then true else(!r_1))then true else(decide (x.a=x.b)))then true else(!r_2))then true else(!r_3)),false)]then aT x.ohm 10 100000 else some default).bind fun r_4=>
 bif (bif (bif (bif (bif (bif (!r_)then true else(!r_1))then true else(decide (x.a=x.b)))then true else(!r_2))then true else(!r_3))then true else(!r_4))then
 some false
 else
 Option.bind (aI (jT x) FUEL (0)) fun o=>match o with
 | .ret v=>some v
 | .brk _=>
 some (bif (decide ((x.trip.length:Int)<=6))then(bif (decide ((x.trip.length:Int)=0))then true else(decide (x.kind=3)))else false)
def mD (x:Link) (x1:Int) (x11:List Source) (x12:List Link) (x13:List aD):Option Bool:=
 (lY x x1 x11 x12 x13).bind fun r_=>
 some (!r_)
def iD (s_:List Link) (f_:Int) (f_1:List Source) (f_2:List Link) (f_3:List aD):Int->Option (bC Int (Ex Unit Int)):=
 fun t8=>
 bif (decide (t8<(s_.length:Int)))then
 (mD (at' s_ t8.toNat) f_ f_1 f_2 f_3).bind fun r_=>
 aX ((0:Int)<=t8/\t8<(s_.length:Int)) (
 bif r_ then
 some (.done (.ret t8))
 else
 some (.next (IntKind.wrap .i64 (t8+1))))
 else
 some (.done (.brk ()))
def jI (s_:List Link) (f_:Int) (f_1:List Source) (f_2:List Link) (f_3:List aD):Option Int:=
 Option.bind (aI (iD s_ f_ f_1 f_2 f_3) FUEL (0)) fun o=>match o with
 | .ret v=>some v
 | .brk _=>
 some (-1)
def eZ (s_:List Link) (f_:Int) (f_1:List Source) (f_2:List Link) (f_3:List aD):Option Bool:=
 (jI s_ f_ f_1 f_2 f_3).bind fun r_=>
 some (decide (0<=r_))
def mE (l:List Link) (most:Int) (right:Int) (right1:List Source) (right2:List Link) (right3:List aD):Option Bool:=
 (bif gB [(decide ((l.length:Int)<=most),true)]then eZ l right right1 right2 right3 else some default).bind fun r_=>
 some (bif (decide ((l.length:Int)<=most))then(!r_)else false)
def nH (x:aD):Option Int:=
 bif (decide (x.aw.e1=(-1)))then
 some 1
 else
 some 2
def mq (x:aD) (x1:Int) (x11:List Source) (x12:List Link) (x13:List aD):Option Bool:=
 (aT x.aw.e0 0 (IntKind.wrap .i64 (x1 - 1))).bind fun r_=>
 (bif gB [(r_,true)]then aT x.aw.e1 (-1) (IntKind.wrap .i64 (x1 - 1))else some default).bind fun r_1=>
 (bif gB [((bif (bif r_ then r_1 else false)then(!decide (x.aw.e0=x.aw.e1))else false),true)]then aT x.power 1 100000 else some default).bind fun r_2=>
 (bif gB [((bif (bif (bif r_ then r_1 else false)then(!decide (x.aw.e0=x.aw.e1))else false)then r_2 else false),true)]then nH x else some default).bind fun r_3=>
 (bif gB [((bif (bif (bif r_ then r_1 else false)then(!decide (x.aw.e0=x.aw.e1))else false)then r_2 else false),true)]then aT x.bi 0 r_3 else some default).bind fun r_4=>
 some (bif (bif (bif (bif r_ then r_1 else false)then(!decide (x.aw.e0=x.aw.e1))else false)then r_2 else false)then r_4 else false)
def mG (x:aD) (x1:Int) (x11:List Source) (x12:List Link) (x13:List aD):Option Bool:=
 (mq x x1 x11 x12 x13).bind fun r_=>
 some (!r_)
def iF (s_:List aD) (f_:Int) (f_1:List Source) (f_2:List Link) (f_3:List aD):Int->Option (bC Int (Ex Unit Int)):=
 fun t8=>
 bif (decide (t8<(s_.length:Int)))then
 (mG (⟨(at' s_ t8.toNat).aw,(at' s_ t8.toNat).power,(at' s_ t8.toNat).bi⟩:aD) f_ f_1 f_2 f_3).bind fun r_=>
 aX ((0:Int)<=t8/\t8<(s_.length:Int)) (
 bif r_ then
 some (.done (.ret t8))
 else
 some (.next (IntKind.wrap .i64 (t8+1))))
 else
 some (.done (.brk ()))
def jL (s_:List aD) (f_:Int) (f_1:List Source) (f_2:List Link) (f_3:List aD):Option Int:=
 Option.bind (aI (iF s_ f_ f_1 f_2 f_3) FUEL (0)) fun o=>match o with
 | .ret v=>some v
 | .brk _=>
 some (-1)
def eU (s_:List aD) (f_:Int) (f_1:List Source) (f_2:List Link) (f_3:List aD):Option Bool:=
 (jL s_ f_ f_1 f_2 f_3).bind fun r_=>
 some (decide (0<=r_))
def lW (l:List aD) (most:Int) (right:Int) (right1:List Source) (right2:List Link) (right3:List aD):Option Bool:=
 (bif gB [(decide ((l.length:Int)<=most),true)]then eU l right right1 right2 right3 else some default).bind fun r_=>
 some (bif (decide ((l.length:Int)<=most))then(!r_)else false)
def fq (p:af):Option Int:=
 (aT p.ag 1 24).bind fun r_=>
 bif (!r_)then
 some 10
 else
 (pM p).bind fun r_1=>
 (ow p.aa 8 r_1.1 r_1.2.1 r_1.2.2.1 r_1.2.2.2).bind fun r_2=>
 bif (!r_2)then
 some 11
 else
 (sK p).bind fun r_3=>
 (mE p.ae 40 r_3.1 r_3.2.1 r_3.2.2.1 r_3.2.2.2).bind fun r_4=>
 bif (!r_4)then
 some 12
 else
 (tu p).bind fun r_5=>
 (lW p.ac 24 r_5.1 r_5.2.1 r_5.2.2.1 r_5.2.2.2).bind fun r_6=>
 bif (!r_6)then
 some 13
 else
 some 0
def kQ (x:Link):Int->Option (bC Int (Ex Unit Bool)):=
 fun i=>
 bif (decide (i<(x.trip.length:Int)))then
 aX ((0:Int)<=i/\i<(x.trip.length:Int)) (
 bif (bif (bif (bif (decide (((at' x.trip i.toNat).bp)<1))then true else(decide (1000000<((at' x.trip i.toNat).bp))))then true else(decide (((at' x.trip i.toNat).bj)<1)))then true else(decide (100000<((at' x.trip i.toNat).bj))))then
 some (.done (.ret false))
 else
 aX ((gB [(decide (0<i),true)]=true->(0:Int)<=(IntKind.wrap .i64 (i - 1))/\(IntKind.wrap .i64 (i - 1))<(x.trip.length:Int))/\(gB [(decide (((at' x.trip i.toNat).bp)<=((at' x.trip ((IntKind.wrap .i64 (i - 1)).toNat)).bp)),false),(decide (0<i),true)]=true->(0:Int)<=(IntKind.wrap .i64 (i - 1))/\(IntKind.wrap .i64 (i - 1))<(x.trip.length:Int))) (
 bif (bif (decide (0<i))then(bif (decide (((at' x.trip i.toNat).bp)<=((at' x.trip ((IntKind.wrap .i64 (i - 1)).toNat)).bp)))then true else(decide (((at' x.trip ((IntKind.wrap .i64 (i - 1)).toNat)).bj)<=((at' x.trip i.toNat).bj))))else false)then
 some (.done (.ret false))
 else
 some (.next (IntKind.wrap .i64 (i+1)))))
 else
 some (.done (.brk ()))
def ou (p:af) (x:Link):Option Bool:=
 bif (bif (bif (bif (bif (bif (bif (bif (bif (bif (bif (decide (x.a<0))then true else(decide (p.ag<=x.a)))then true else(decide (x.b<0)))then true else(decide (p.ag<=x.b)))then true else(decide (x.a=x.b)))then true else(decide (x.kind<1)))then true else(decide (3<x.kind)))then true else(decide (x.most<1)))then true else(decide (100000<x.most)))then true else(decide (x.ohm<10)))then true else(decide (100000<x.ohm)))then
 some false
 else
 bif (bif (decide (6<(x.trip.length:Int)))then true else(bif (decide (0<(x.trip.length:Int)))then(!decide (x.kind=3))else false))then
 some false
 else
 Option.bind (aI (kQ x) FUEL (0)) fun o=>match o with
 | .ret v=>some v
 | .brk _=>
 some true
def kC (p:af):Int->Option (bC Int (Ex Unit Int)):=
 fun i=>
 bif (decide (i<(p.aa.length:Int)))then
 aX ((0:Int)<=i/\i<(p.aa.length:Int)) (
 bif (bif (bif (bif (bif (bif (bif (bif (bif (bif (decide (((at' p.aa i.toNat).bus)<0))then true else(decide (p.ag<=((at' p.aa i.toNat).bus))))then true else(decide (((at' p.aa i.toNat).kind)<1)))then true else(decide (3<((at' p.aa i.toNat).kind))))then true else(decide (((at' p.aa i.toNat).power)<1)))then true else(decide (100000<((at' p.aa i.toNat).power))))then true else(decide (((at' p.aa i.toNat).bk)<0)))then true else(decide (8<((at' p.aa i.toNat).bk))))then true else(decide (((at' p.aa i.toNat).ohm)<10)))then true else(decide (100000<((at' p.aa i.toNat).ohm))))then
 some (.done (.ret 11))
 else
 some (.next (IntKind.wrap .i64 (i+1))))
 else
 some (.done (.brk ()))
def kE (p:af):Int->Option (bC Int (Ex Unit Int)):=
 fun i1=>
 bif (decide (i1<(p.ae.length:Int)))then
 (ou p (at' p.ae i1.toNat)).bind fun r_=>
 aX ((0:Int)<=i1/\i1<(p.ae.length:Int)) (
 bif (!r_)then
 some (.done (.ret 12))
 else
 some (.next (IntKind.wrap .i64 (i1+1))))
 else
 some (.done (.brk ()))
def kD (p:af):Int->Option (bC Int (Ex Unit Int)):=
 fun i2=>
 bif (decide (i2<(p.ac.length:Int)))then
 aX ((0:Int)<=i2/\i2<(p.ac.length:Int)) (
 bif (decide ((((at' p.ac i2.toNat).aw).e1)=(-1)))then
 bif (bif (bif (bif (bif (bif (bif (bif (bif (decide ((((at' p.ac i2.toNat).aw).e0)<0))then true else(decide (p.ag<=(((at' p.ac i2.toNat).aw).e0))))then true else(decide ((((at' p.ac i2.toNat).aw).e1)<(-1))))then true else(decide (p.ag<=(((at' p.ac i2.toNat).aw).e1))))then true else(decide ((((at' p.ac i2.toNat).aw).e0)=(((at' p.ac i2.toNat).aw).e1))))then true else(decide (((at' p.ac i2.toNat).power)<1)))then true else(decide (100000<((at' p.ac i2.toNat).power))))then true else(decide (((at' p.ac i2.toNat).bi)<0)))then true else(decide (1<((at' p.ac i2.toNat).bi))))then
 some (.done (.ret 13))
 else
 some (.next (IntKind.wrap .i64 (i2+1)))
 else
 bif (bif (bif (bif (bif (bif (bif (bif (bif (decide ((((at' p.ac i2.toNat).aw).e0)<0))then true else(decide (p.ag<=(((at' p.ac i2.toNat).aw).e0))))then true else(decide ((((at' p.ac i2.toNat).aw).e1)<(-1))))then true else(decide (p.ag<=(((at' p.ac i2.toNat).aw).e1))))then true else(decide ((((at' p.ac i2.toNat).aw).e0)=(((at' p.ac i2.toNat).aw).e1))))then true else(decide (((at' p.ac i2.toNat).power)<1)))then true else(decide (100000<((at' p.ac i2.toNat).power))))then true else(decide (((at' p.ac i2.toNat).bi)<0)))then true else(decide (2<((at' p.ac i2.toNat).bi))))then
 some (.done (.ret 13))
 else
 some (.next (IntKind.wrap .i64 (i2+1))))
 else
 some (.done (.brk ()))
def fe (p:af):Option Int:=
 bif (bif (decide (p.ag<1))then true else(decide (24<p.ag)))then
 some 10
 else
 bif (decide (8<(p.aa.length:Int)))then
 some 11
 else
 Option.bind (aI (kC p) FUEL (0)) fun o=>match o with
 | .ret v=>some v
 | .brk _=>
 bif (decide (40<(p.ae.length:Int)))then
 some 12
 else
 Option.bind (aI (kE p) FUEL (0)) fun o=>match o with
 | .ret v=>some v
 | .brk _=>
 bif (decide (24<(p.ac.length:Int)))then
 some 13
 else
 Option.bind (aI (kD p) FUEL (0)) fun o=>match o with
 | .ret v=>some v
 | .brk _=>
 some 0
def yJ (p:af):((List Bool) × Int)->Option (bC ((List Bool) × Int) (Ex (List Bool) (State × Int))):=
 fun zz=>match zz with
 |(s0,i)=>
 bif (decide (i<(p.ae.length:Int)))then
 aX ((0:Int)<=i/\i<(p.ae.length:Int)) (
 bif (decide (((at' p.ae i.toNat).kind)=1))then
 aX ((0:Int)<=i/\i<(s0.length:Int)) (
 some (.next (s0.set i.toNat true,IntKind.wrap .i64 (i+1))))
 else
 some (.next (s0,IntKind.wrap .i64 (i+1))))
 else
 some (.done (.brk s0))
def uf (p:af):Option (State × Int):=
 (fe p).bind fun r_=>
 bif (!decide (r_=0))then
 some ((⟨([]:List Bool),([]:List Bool),([]:List Bool),([]:List Bool),([]:List Bool),([]:List Bool),([]:List Bool)⟩:State),r_)
 else
 aX (((0:Int)<=(p.ae.length:Int))/\((1:Int)*(p.ae.length:Int)<=281474976710656)/\(((p.ae.length:Int):Int)<=9223372036854775807)/\((0:Int)<=(p.aa.length:Int))/\((1:Int)*(p.aa.length:Int)<=281474976710656)/\(((p.aa.length:Int):Int)<=9223372036854775807)/\((0:Int)<=p.ag)/\((1:Int)*p.ag<=281474976710656)/\((p.ag:Int)<=9223372036854775807)) (
 Option.bind (aI (yJ p) FUEL (List.replicate ((p.ae.length:Int).toNat) (false:Bool),0)) fun o=>match o with
 | .ret v=>some v
 | .brk s01=>
 some ((⟨s01,List.replicate ((p.ae.length:Int).toNat) (false:Bool),List.replicate ((p.ae.length:Int).toNat) (false:Bool),List.replicate ((p.aa.length:Int).toNat) (false:Bool),List.replicate ((p.aa.length:Int).toNat) (false:Bool),List.replicate p.ag.toNat (false:Bool),List.replicate p.ag.toNat (false:Bool)⟩:State),0))
def uH (p:af) (s_:State):Int->Option (bC Int (Ex Unit Int)):=
 fun t55=>
 bif (decide (t55<([(⟨s_.a_,(p.ae.length:Int)⟩:gD),(⟨s_.bh,(p.ae.length:Int)⟩:gD),(⟨s_.aq,(p.ae.length:Int)⟩:gD),(⟨s_.on_,(p.aa.length:Int)⟩:gD),(⟨s_.am,(p.aa.length:Int)⟩:gD),(⟨s_.ba,p.ag⟩:gD),(⟨s_.ap,p.ag⟩:gD)].length:Int)))then
 aX ((0:Int)<=t55/\t55<([(⟨s_.a_,(p.ae.length:Int)⟩:gD),(⟨s_.bh,(p.ae.length:Int)⟩:gD),(⟨s_.aq,(p.ae.length:Int)⟩:gD),(⟨s_.on_,(p.aa.length:Int)⟩:gD),(⟨s_.am,(p.aa.length:Int)⟩:gD),(⟨s_.ba,p.ag⟩:gD),(⟨s_.ap,p.ag⟩:gD)].length:Int)) (
 bif (!decide ((((at' [(⟨s_.a_,(p.ae.length:Int)⟩:gD),(⟨s_.bh,(p.ae.length:Int)⟩:gD),(⟨s_.aq,(p.ae.length:Int)⟩:gD),(⟨s_.on_,(p.aa.length:Int)⟩:gD),(⟨s_.am,(p.aa.length:Int)⟩:gD),(⟨s_.ba,p.ag⟩:gD),(⟨s_.ap,p.ag⟩:gD)] t55.toNat).l).length:Int)=((at' [(⟨s_.a_,(p.ae.length:Int)⟩:gD),(⟨s_.bh,(p.ae.length:Int)⟩:gD),(⟨s_.aq,(p.ae.length:Int)⟩:gD),(⟨s_.on_,(p.aa.length:Int)⟩:gD),(⟨s_.am,(p.aa.length:Int)⟩:gD),(⟨s_.ba,p.ag⟩:gD),(⟨s_.ap,p.ag⟩:gD)] t55.toNat).n)))then
 some (.done (.ret 9))
 else
 some (.next (IntKind.wrap .i64 (t55+1))))
 else
 some (.done (.brk ()))
def uD (p:af) (s_:State):Int->Option (bC Int (Ex Unit Int)):=
 fun t69=>
 bif (decide (t69<(p.ae.length:Int)))then
 aX ((0:Int)<=t69/\t69<(p.ae.length:Int)) (
 aX ((gB [(decide (((at' p.ae t69.toNat).kind)=1),true)]=true->(0:Int)<=t69/\t69<(s_.a_.length:Int))/\(gB [(!(at' s_.a_ t69.toNat),false),(decide (((at' p.ae t69.toNat).kind)=1),true)]=true->(0:Int)<=t69/\t69<(s_.bh.length:Int))) (
 bif (bif (decide (((at' p.ae t69.toNat).kind)=1))then(bif (!(at' s_.a_ t69.toNat))then true else(at' s_.bh t69.toNat))else false)then
 some (.done (.ret 9))
 else
 some (.next (IntKind.wrap .i64 (t69+1)))))
 else
 some (.done (.brk ()))
def dQ (p:af) (s_:State):Option Int:=
 (fq p).bind fun r_=>
 bif (!decide (r_=0))then
 some r_
 else
 Option.bind (aI (uH p s_) FUEL (0)) fun o=>match o with
 | .ret v=>some v
 | .brk _=>
 Option.bind (aI (uD p s_) FUEL (0)) fun o=>match o with
 | .ret v=>some v
 | .brk _=>
 some 0
def p9 (p:af) (s_:State):Option (Int × (List Source) × (List Link) × (List aD) × (List Bool) × (List Bool) × (List Bool) × (List Bool) × (List Bool) × (List Bool) × (List Bool)):=
 some (p.ag,p.aa,p.ae,p.ac,s_.a_,s_.bh,s_.aq,s_.on_,s_.am,s_.ba,s_.ap)
def qW (g:aM):Int->Option (bC Int (Ex Unit Int)):=
 fun x1=>
 bif (!((bg fA x1 g.head).isSome))then
 some (.done (.ret x1))
 else
 some (.next ((bg fA x1 g.head).getD 0))
def dD (g:aM) (x:Int):Option Int:=
 Option.bind (aI (qW g) FUEL (x)) fun o=>match o with
 | .ret v=>some v
 | .brk _=>none
def nZ (g:aM) (a:Int) (b:Int):Option (List (Int × Int)):=
 (dD g a).bind fun r_=>
 (dD g b).bind fun r_1=>
 bif (!decide (r_=r_1))then
 some (aG fA r_ r_1 g.head)
 else
 some g.head
def j5 (x22:Int) (x221:Int) (x222:Int) (x223:Int) (x224:Int) (x225:List au) (o_:aM):Option aM:=
 (nZ o_ x22 x221).bind fun r_=>
 some (⟨r_⟩:aM)
def rT (x12:List Link) (x2:List Bool) (x22:List Bool) (x26:List Bool):((List (Int × Int)) × Int)->Option (bC ((List (Int × Int)) × Int) (Ex (List (Int × Int)) aM)):=
 fun zz=>match zz with
 |(o0,t9)=>
 bif (decide (t9<(x12.length:Int)))then
 aX ((0:Int)<=t9/\t9<(x12.length:Int)) (
 bif (bif (bif (bif (at' x2 t9.toNat)then(!(at' x22 t9.toNat))else false)then(!(at' x26 (((at' x12 t9.toNat).a).toNat)))else false)then(!(at' x26 (((at' x12 t9.toNat).b).toNat)))else false)then
 (j5 ((at' x12 t9.toNat).a) ((at' x12 t9.toNat).b) ((at' x12 t9.toNat).kind) ((at' x12 t9.toNat).most) ((at' x12 t9.toNat).ohm) ((at' x12 t9.toNat).trip) (⟨o0⟩:aM)).bind fun r_=>
 aX (((0:Int)<=t9/\t9<(x2.length:Int))/\(gB [(at' x2 t9.toNat,true)]=true->(0:Int)<=t9/\t9<(x22.length:Int))/\(gB [((bif (at' x2 t9.toNat)then(!(at' x22 t9.toNat))else false),true)]=true->(0:Int)<=(at' x12 t9.toNat).a/\(at' x12 t9.toNat).a<(x26.length:Int))/\(gB [((bif (bif (at' x2 t9.toNat)then(!(at' x22 t9.toNat))else false)then(!(at' x26 (((at' x12 t9.toNat).a).toNat)))else false),true)]=true->(0:Int)<=(at' x12 t9.toNat).b/\(at' x12 t9.toNat).b<(x26.length:Int))) (
 some (.next (r_.head,IntKind.wrap .i64 (t9+1))))
 else
 aX (((0:Int)<=t9/\t9<(x2.length:Int))/\(gB [(at' x2 t9.toNat,true)]=true->(0:Int)<=t9/\t9<(x22.length:Int))/\(gB [((bif (at' x2 t9.toNat)then(!(at' x22 t9.toNat))else false),true)]=true->(0:Int)<=(at' x12 t9.toNat).a/\(at' x12 t9.toNat).a<(x26.length:Int))/\(gB [((bif (bif (at' x2 t9.toNat)then(!(at' x22 t9.toNat))else false)then(!(at' x26 (((at' x12 t9.toNat).a).toNat)))else false),true)]=true->(0:Int)<=(at' x12 t9.toNat).b/\(at' x12 t9.toNat).b<(x26.length:Int))) (
 some (.next (o0,IntKind.wrap .i64 (t9+1)))))
 else
 some (.done (.brk o0))
def nP (x1:Int) (x11:List Source) (x12:List Link) (x13:List aD) (x2:List Bool) (x21:List Bool) (x22:List Bool) (x23:List Bool) (x24:List Bool) (x25:List Bool) (x26:List Bool) (o_:aM):Option aM:=
 Option.bind (aI (rT x12 x2 x22 x26) FUEL (o_.head,0)) fun o=>match o with
 | .ret v=>some v
 | .brk o01=>
 some (⟨o01⟩:aM)
def yF (p:af) (s_:State) (r_1:aM):((List ai) × (List (Int × Int)) × Int)->Option (bC ((List ai) × (List (Int × Int)) × Int) (Ex ((List ai) × (List (Int × Int))) (List ai))):=
 fun zz=>match zz with
 |(out,at_,t32)=>
 bif (decide (t32<p.ag))then
 aX ((0:Int)<=t32/\t32<(s_.ap.length:Int)) (
 bif (at' s_.ap t32.toNat)then
 some (.next (out,at_,IntKind.wrap .i64 (t32+1)))
 else
 (dD r_1 t32).bind fun r_2=>
 bif (!((bg fA r_2 at_).isSome))then
 aX (((out.length+[(⟨([]:List Int),([]:List Int)⟩:ai)].length)*48<=140737488355328)/\(out.length+[(⟨([]:List Int),([]:List Int)⟩:ai)].length<=4611686018427387904)) (
 aX (((0:Int)<=((bg fA r_2 (aG fA r_2 (out.length:Int) at_)).getD 0)/\((bg fA r_2 (aG fA r_2 (out.length:Int) at_)).getD 0)<((out++[(⟨([]:List Int),([]:List Int)⟩:ai)]).length:Int))/\((((at' (out++[(⟨([]:List Int),([]:List Int)⟩:ai)]) (((bg fA r_2 (aG fA r_2 (out.length:Int) at_)).getD 0).toNat)).ag).length+[t32].length)*8<=140737488355328)/\(((at' (out++[(⟨([]:List Int),([]:List Int)⟩:ai)]) (((bg fA r_2 (aG fA r_2 (out.length:Int) at_)).getD 0).toNat)).ag).length+[t32].length<=4611686018427387904)) (
 some (.next ((out++[(⟨([]:List Int),([]:List Int)⟩:ai)]).set (((bg fA r_2 (aG fA r_2 (out.length:Int) at_)).getD 0).toNat) (⟨((at' (out++[(⟨([]:List Int),([]:List Int)⟩:ai)]) (((bg fA r_2 (aG fA r_2 (out.length:Int) at_)).getD 0).toNat)).ag)++[t32],(at' (out++[(⟨([]:List Int),([]:List Int)⟩:ai)]) (((bg fA r_2 (aG fA r_2 (out.length:Int) at_)).getD 0).toNat)).aa⟩:ai),aG fA r_2 (out.length:Int) at_,IntKind.wrap .i64 (t32+1)))))
 else
 aX (((0:Int)<=((bg fA r_2 at_).getD 0)/\((bg fA r_2 at_).getD 0)<(out.length:Int))/\((((at' out (((bg fA r_2 at_).getD 0).toNat)).ag).length+[t32].length)*8<=140737488355328)/\(((at' out (((bg fA r_2 at_).getD 0).toNat)).ag).length+[t32].length<=4611686018427387904)) (
 some (.next (out.set (((bg fA r_2 at_).getD 0).toNat) (⟨((at' out (((bg fA r_2 at_).getD 0).toNat)).ag)++[t32],(at' out (((bg fA r_2 at_).getD 0).toNat)).aa⟩:ai),at_,IntKind.wrap .i64 (t32+1)))))
 else
 some (.done (.brk (out,at_)))
def zh (p:af) (s_:State) (r_1:aM) (at_1:List (Int × Int)):((List ai) × Int)->Option (bC ((List ai) × Int) (Ex (List ai) (List ai))):=
 fun zz=>match zz with
 |(out2,t78)=>
 bif (decide (t78<(p.aa.length:Int)))then
 aX ((0:Int)<=t78/\t78<(p.aa.length:Int)) (
 aX (((0:Int)<=t78/\t78<(s_.on_.length:Int))/\(gB [(at' s_.on_ t78.toNat,true)]=true->(0:Int)<=t78/\t78<(s_.am.length:Int))/\(gB [((bif (at' s_.on_ t78.toNat)then(!(at' s_.am t78.toNat))else false),true)]=true->(0:Int)<=(at' p.aa t78.toNat).bus/\(at' p.aa t78.toNat).bus<(s_.ap.length:Int))) (
 bif (bif (bif (at' s_.on_ t78.toNat)then(!(at' s_.am t78.toNat))else false)then(!(at' s_.ap (((at' p.aa t78.toNat).bus).toNat)))else false)then
 (dD r_1 ((at' p.aa t78.toNat).bus)).bind fun r_3=>
 aX (((0:Int)<=((bg fA r_3 at_1).getD 0)/\((bg fA r_3 at_1).getD 0)<(out2.length:Int))/\((((at' out2 (((bg fA r_3 at_1).getD 0).toNat)).aa).length+[t78].length)*8<=140737488355328)/\(((at' out2 (((bg fA r_3 at_1).getD 0).toNat)).aa).length+[t78].length<=4611686018427387904)) (
 some (.next (out2.set (((bg fA r_3 at_1).getD 0).toNat) (⟨(at' out2 (((bg fA r_3 at_1).getD 0).toNat)).ag,((at' out2 (((bg fA r_3 at_1).getD 0).toNat)).aa)++[t78]⟩:ai),IntKind.wrap .i64 (t78+1))))
 else
 some (.next (out2,IntKind.wrap .i64 (t78+1)))))
 else
 some (.done (.brk out2))
def kX (p:af) (s_:State):Option (List ai):=
 (p9 p s_).bind fun r_=>
 (nP r_.1 r_.2.1 r_.2.2.1 r_.2.2.2.1 r_.2.2.2.2.1 r_.2.2.2.2.2.1 r_.2.2.2.2.2.2.1 r_.2.2.2.2.2.2.2.1 r_.2.2.2.2.2.2.2.2.1 r_.2.2.2.2.2.2.2.2.2.1 r_.2.2.2.2.2.2.2.2.2.2 (⟨([]:(List (Int × Int)))⟩:aM)).bind fun r_1=>
 Option.bind (aI (yF p s_ r_1) FUEL (([]:List ai),([]:(List (Int × Int))),0)) fun o=>match o with
 | .ret v=>some v
 | .brk (out1,at_1)=>
 Option.bind (aI (zh p s_ r_1 at_1) FUEL (out1,0)) fun o=>match o with
 | .ret v=>some v
 | .brk out3=>
 some out3
def gU (p:af) (s_:State):Option ((List ai) × Int):=
 (dQ p s_).bind fun r_=>
 bif (!decide (r_=0))then
 some (([]:List ai),r_)
 else
 (kX p s_).bind fun r_1=>
 some (r_1,0)
def Bf (p:af) (s_:State):Int->Option (bC Int (Ex Unit Bool)):=
 fun i=>
 bif (decide (i<(p.ae.length:Int)))then
 aX (((0:Int)<=i/\i<(p.ae.length:Int))/\(gB [(decide (((at' p.ae i.toNat).kind)=1),true)]=true->(0:Int)<=i/\i<(s_.a_.length:Int))/\(gB [(!(at' s_.a_ i.toNat),false),(decide (((at' p.ae i.toNat).kind)=1),true)]=true->(0:Int)<=i/\i<(s_.bh.length:Int))) (
 bif (bif (decide (((at' p.ae i.toNat).kind)=1))then(bif (!(at' s_.a_ i.toNat))then true else(at' s_.bh i.toNat))else false)then
 some (.done (.ret false))
 else
 some (.next (IntKind.wrap .i64 (i+1))))
 else
 some (.done (.brk ()))
def xN (p:af) (s_:State):Option Bool:=
 bif (bif (bif (bif (bif (bif (bif (!decide ((s_.a_.length:Int)=(p.ae.length:Int)))then true else(!decide ((s_.bh.length:Int)=(p.ae.length:Int))))then true else(!decide ((s_.aq.length:Int)=(p.ae.length:Int))))then true else(!decide ((s_.on_.length:Int)=(p.aa.length:Int))))then true else(!decide ((s_.am.length:Int)=(p.aa.length:Int))))then true else(!decide ((s_.ba.length:Int)=p.ag)))then true else(!decide ((s_.ap.length:Int)=p.ag)))then
 some false
 else
 Option.bind (aI (Bf p s_) FUEL (0)) fun o=>match o with
 | .ret v=>some v
 | .brk _=>
 some true
def lC (p:af) (s_:State):Option Int:=
 (fe p).bind fun r_=>
 (bif gB [(decide (r_=0),true)]then xN p s_ else some default).bind fun r_1=>
 bif (bif (decide (r_=0))then(!r_1)else false)then
 some 9
 else
 some r_
def rM (p:af) (s_:State) (i:Int):Option Bool:=
 aX (((0:Int)<=i/\i<(s_.a_.length:Int))/\(gB [(at' s_.a_ i.toNat,true)]=true->(0:Int)<=i/\i<(s_.aq.length:Int))/\(gB [((bif (at' s_.a_ i.toNat)then(!(at' s_.aq i.toNat))else false),true)]=true->(0:Int)<=i/\i<(p.ae.length:Int))/\(gB [((bif (at' s_.a_ i.toNat)then(!(at' s_.aq i.toNat))else false),true)]=true->(0:Int)<=(at' p.ae i.toNat).a/\(at' p.ae i.toNat).a<(s_.ap.length:Int))/\(gB [((bif (bif (at' s_.a_ i.toNat)then(!(at' s_.aq i.toNat))else false)then(!(at' s_.ap (((at' p.ae i.toNat).a).toNat)))else false),true)]=true->(0:Int)<=i/\i<(p.ae.length:Int))/\(gB [((bif (bif (at' s_.a_ i.toNat)then(!(at' s_.aq i.toNat))else false)then(!(at' s_.ap (((at' p.ae i.toNat).a).toNat)))else false),true)]=true->(0:Int)<=(at' p.ae i.toNat).b/\(at' p.ae i.toNat).b<(s_.ap.length:Int))) (
 some (bif (bif (bif (at' s_.a_ i.toNat)then(!(at' s_.aq i.toNat))else false)then(!(at' s_.ap (((at' p.ae i.toNat).a).toNat)))else false)then(!(at' s_.ap (((at' p.ae i.toNat).b).toNat)))else false))
def A8 (p:af) (s_:State) (b:Int):((List Bool) × Int)->Option (bC ((List Bool) × Int) (Ex (List Bool) (bC ((List Bool) × Int) (Ex (List Bool) (List Bool))))):=
 fun zz=>match zz with
 |(out2,i)=>
 bif (decide (i<(p.ae.length:Int)))then
 aX ((0:Int)<=i/\i<(p.ae.length:Int)) (
 (rM p s_ i).bind fun r_=>
 aX ((gB [(r_,true)]=true->(0:Int)<=(at' p.ae i.toNat).a/\(at' p.ae i.toNat).a<(out2.length:Int))/\(gB [(at' out2 (((at' p.ae i.toNat).a).toNat),false),(r_,true)]=true->(0:Int)<=(at' p.ae i.toNat).b/\(at' p.ae i.toNat).b<(out2.length:Int))) (
 bif (bif r_ then(bif (at' out2 (((at' p.ae i.toNat).a).toNat))then true else(at' out2 (((at' p.ae i.toNat).b).toNat)))else false)then
 aX ((0:Int)<=(at' p.ae i.toNat).a/\(at' p.ae i.toNat).a<(out2.length:Int)) (
 aX ((0:Int)<=(at' p.ae i.toNat).b/\(at' p.ae i.toNat).b<((out2.set (((at' p.ae i.toNat).a).toNat) true).length:Int)) (
 some (.next ((out2.set (((at' p.ae i.toNat).a).toNat) true).set (((at' p.ae i.toNat).b).toNat) true,IntKind.wrap .i64 (i+1)))))
 else
 some (.next (out2,IntKind.wrap .i64 (i+1)))))
 else
 some (.done (.brk out2))
def Ba (p:af) (s_:State) (b:Int):((List Bool) × Int)->Option (bC ((List Bool) × Int) (Ex (List Bool) (List Bool))):=
 fun zz=>match zz with
 |(out,n)=>
 bif (decide (n<p.ag))then
 Option.bind (aI (A8 p s_ b) FUEL (out,0)) fun o=>match o with
 | .ret v=>some v
 | .brk out3=>
 some (.next (out3,IntKind.wrap .i64 (n+1)))
 else
 some (.done (.brk out))
def qO (p:af) (s_:State) (b:Int):Option (List Bool):=
 aX (((0:Int)<=p.ag)/\((1:Int)*p.ag<=281474976710656)/\((p.ag:Int)<=9223372036854775807)) (
 aX ((0:Int)<=b/\b<((List.replicate p.ag.toNat (false:Bool)).length:Int)) (
 Option.bind (aI (Ba p s_ b) FUEL ((List.replicate p.ag.toNat (false:Bool)).set b.toNat true,0)) fun o=>match o with
 | .ret v=>some v
 | .brk out1=>
 some out1))
def nG (p:af) (s_:State) (kz:Int):Option Bool:=
 aX (((0:Int)<=kz/\kz<(s_.on_.length:Int))/\(gB [(at' s_.on_ kz.toNat,true)]=true->(0:Int)<=kz/\kz<(s_.am.length:Int))/\(gB [((bif (at' s_.on_ kz.toNat)then(!(at' s_.am kz.toNat))else false),true)]=true->(0:Int)<=kz/\kz<(p.aa.length:Int))/\(gB [((bif (at' s_.on_ kz.toNat)then(!(at' s_.am kz.toNat))else false),true)]=true->(0:Int)<=(at' p.aa kz.toNat).bus/\(at' p.aa kz.toNat).bus<(s_.ap.length:Int))) (
 some (bif (bif (at' s_.on_ kz.toNat)then(!(at' s_.am kz.toNat))else false)then(!(at' s_.ap (((at' p.aa kz.toNat).bus).toNat)))else false))
def yZ (p:af) (r_1:List Bool):((List Int) × Int)->Option (bC ((List Int) × Int) (Ex (List Int) (bC ((List ai) × Int) (Ex (List ai) ((List ai) × Int))))):=
 fun zz=>match zz with
 |(x0,c)=>
 bif (decide (c<p.ag))then
 aX ((0:Int)<=c/\c<(r_1.length:Int)) (
 bif (at' r_1 c.toNat)then
 aX (((x0.length+[c].length)*8<=140737488355328)/\(x0.length+[c].length<=4611686018427387904)) (
 some (.next (x0++[c],IntKind.wrap .i64 (c+1))))
 else
 some (.next (x0,IntKind.wrap .i64 (c+1))))
 else
 some (.done (.brk x0))
def yO (p:af) (s_:State) (r_1:List Bool):((List Int) × Int)->Option (bC ((List Int) × Int) (Ex (List Int) (bC ((List ai) × Int) (Ex (List ai) ((List ai) × Int))))):=
 fun zz=>match zz with
 |(x1,kz)=>
 bif (decide (kz<(p.aa.length:Int)))then
 (nG p s_ kz).bind fun r_2=>
 aX ((gB [(r_2,true)]=true->(0:Int)<=kz/\kz<(p.aa.length:Int))/\(gB [(r_2,true)]=true->(0:Int)<=(at' p.aa kz.toNat).bus/\(at' p.aa kz.toNat).bus<(r_1.length:Int))) (
 bif (bif r_2 then(at' r_1 (((at' p.aa kz.toNat).bus).toNat))else false)then
 aX (((x1.length+[kz].length)*8<=140737488355328)/\(x1.length+[kz].length<=4611686018427387904)) (
 some (.next (x1++[kz],IntKind.wrap .i64 (kz+1))))
 else
 some (.next (x1,IntKind.wrap .i64 (kz+1))))
 else
 some (.done (.brk x1))
def yD (p:af) (s_:State):((List ai) × Int)->Option (bC ((List ai) × Int) (Ex (List ai) ((List ai) × Int))):=
 fun zz=>match zz with
 |(out,b)=>
 bif (decide (b<p.ag))then
 aX ((0:Int)<=b/\b<(s_.ap.length:Int)) (
 bif (at' s_.ap b.toNat)then
 some (.next (out,IntKind.wrap .i64 (b+1)))
 else
 (qO p s_ b).bind fun r_1=>
 Option.bind (aI (yZ p r_1) FUEL (([]:List Int),0)) fun o=>match o with
 | .ret v=>some v
 | .brk x01=>
 aX ((0:Int)<=0/\0<(x01.length:Int)) (
 bif (!decide ((at' x01 0)=b))then
 some (.next (out,IntKind.wrap .i64 (b+1)))
 else
 Option.bind (aI (yO p s_ r_1) FUEL (([]:List Int),0)) fun o=>match o with
 | .ret v=>some v
 | .brk x11=>
 aX (((out.length+[(⟨x01,x11⟩:ai)].length)*48<=140737488355328)/\(out.length+[(⟨x01,x11⟩:ai)].length<=4611686018427387904)) (
 some (.next (out++[(⟨x01,x11⟩:ai)],IntKind.wrap .i64 (b+1))))))
 else
 some (.done (.brk out))
def jr (p:af) (s_:State):Option ((List ai) × Int):=
 (lC p s_).bind fun r_=>
 bif (!decide (r_=0))then
 some (([]:List ai),r_)
 else
 Option.bind (aI (yD p s_) FUEL (([]:List ai),0)) fun o=>match o with
 | .ret v=>some v
 | .brk out1=>
 some (out1,0)
def dI (x y:ah):Int:=if x.e0<y.e0 then -1 else if y.e0<x.e0 then 1 else if x.e1<y.e1 then -1 else if y.e1<x.e1 then 1 else 0
def qz (s:List ah):Option (List ah):=match s with
 |[]=>some []
 |x::xs=>bif decide ((x::xs).length<4611686018427387904)then some ((x::xs).mergeSort fun x y=> !decide (dI y x<0))else none
def x9 (p:af) (r_1:List ai) (t24:Int) (t31:Int):((List ah) × Int)->Option (bC ((List ah) × Int) (Ex (List ah) (bC ((List ah) × Int) (Ex (List ah) (bC ((List ah) × Int) (Ex (List ah) ((List ah) × Int))))))):=
 fun zz=>match zz with
 |(out4,t42)=>
 bif (decide (t42<(((((at' r_1 t24.toNat).aa).length - ((IntKind.wrap .i64 (t31+1)).toNat)):Nat):Int)))then
 aX ((0:Int)<=t42/\t42<((((at' r_1 t24.toNat).aa).drop ((IntKind.wrap .i64 (t31+1)).toNat)).length:Int)) (
 aX (((0:Int)<=(at' ((at' r_1 t24.toNat).aa) t31.toNat)/\(at' ((at' r_1 t24.toNat).aa) t31.toNat)<(p.aa.length:Int))/\(gB [(decide (((at' p.aa ((at' ((at' r_1 t24.toNat).aa) t31.toNat).toNat)).bk)=0),false)]=true->(0:Int)<=(at' ((at' r_1 t24.toNat).aa) t31.toNat)/\(at' ((at' r_1 t24.toNat).aa) t31.toNat)<(p.aa.length:Int))/\(gB [(decide (((at' p.aa ((at' ((at' r_1 t24.toNat).aa) t31.toNat).toNat)).bk)=0),false)]=true->(0:Int)<=(at' (((at' r_1 t24.toNat).aa).drop ((IntKind.wrap .i64 (t31+1)).toNat)) t42.toNat)/\(at' (((at' r_1 t24.toNat).aa).drop ((IntKind.wrap .i64 (t31+1)).toNat)) t42.toNat)<(p.aa.length:Int))) (
 bif (bif (decide (((at' p.aa ((at' ((at' r_1 t24.toNat).aa) t31.toNat).toNat)).bk)=0))then true else(!decide (((at' p.aa ((at' ((at' r_1 t24.toNat).aa) t31.toNat).toNat)).bk)=((at' p.aa ((at' (((at' r_1 t24.toNat).aa).drop ((IntKind.wrap .i64 (t31+1)).toNat)) t42.toNat).toNat)).bk))))then
 aX (((out4.length+[(⟨at' ((at' r_1 t24.toNat).aa) t31.toNat,at' (((at' r_1 t24.toNat).aa).drop ((IntKind.wrap .i64 (t31+1)).toNat)) t42.toNat⟩:ah)].length)*16<=140737488355328)/\(out4.length+[(⟨at' ((at' r_1 t24.toNat).aa) t31.toNat,at' (((at' r_1 t24.toNat).aa).drop ((IntKind.wrap .i64 (t31+1)).toNat)) t42.toNat⟩:ah)].length<=4611686018427387904)) (
 some (.next (out4++[(⟨at' ((at' r_1 t24.toNat).aa) t31.toNat,at' (((at' r_1 t24.toNat).aa).drop ((IntKind.wrap .i64 (t31+1)).toNat)) t42.toNat⟩:ah)],IntKind.wrap .i64 (t42+1))))
 else
 some (.next (out4,IntKind.wrap .i64 (t42+1)))))
 else
 some (.done (.brk out4))
def yA (p:af) (r_1:List ai) (t24:Int):((List ah) × Int)->Option (bC ((List ah) × Int) (Ex (List ah) (bC ((List ah) × Int) (Ex (List ah) ((List ah) × Int))))):=
 fun zz=>match zz with
 |(out2,t31)=>
 bif (decide (t31<(((at' r_1 t24.toNat).aa).length:Int)))then
 aX ((0:Int)<=t31/\t31<(((at' r_1 t24.toNat).aa).length:Int)) (
 aX ((0:Int)<=(IntKind.wrap .i64 (t31+1))/\(IntKind.wrap .i64 (t31+1))<=(((at' r_1 t24.toNat).aa).length:Int)) (
 Option.bind (aI (x9 p r_1 t24 t31) FUEL (out2,0)) fun o=>match o with
 | .ret v=>some v
 | .brk out5=>
 some (.next (out5,IntKind.wrap .i64 (t31+1)))))
 else
 some (.done (.brk out2))
def zo (p:af) (r_1:List ai):((List ah) × Int)->Option (bC ((List ah) × Int) (Ex (List ah) ((List ah) × Int))):=
 fun zz=>match zz with
 |(out,t24)=>
 bif (decide (t24<(r_1.length:Int)))then
 aX ((0:Int)<=t24/\t24<(r_1.length:Int)) (
 Option.bind (aI (yA p r_1 t24) FUEL (out,0)) fun o=>match o with
 | .ret v=>some v
 | .brk out3=>
 some (.next (out3,IntKind.wrap .i64 (t24+1))))
 else
 some (.done (.brk out))
def gW (p:af) (s_:State):Option ((List ah) × Int):=
 (dQ p s_).bind fun r_=>
 bif (!decide (r_=0))then
 some (([]:List ah),r_)
 else
 (kX p s_).bind fun r_1=>
 Option.bind (aI (zo p r_1) FUEL (([]:List ah),0)) fun o=>match o with
 | .ret v=>some v
 | .brk out1=>
 (qz out1).bind fun r_2=>
 aX (out1.length=r_2.length) (
 some (r_2,0))
def xV (a:Source) (b:Source):Option Bool:=
 some (bif (!decide (a.bk=b.bk))then true else(decide (a.bk=0)))
def yE (p:af) (s_:State) (i:Int):((List ah) × Int)->Option (bC ((List ah) × Int) (Ex (List ah) (bC ((List ah) × Int) (Ex (List ah) ((List ah) × Int))))):=
 fun zz=>match zz with
 |(out2,kz)=>
 bif (decide (kz<(p.aa.length:Int)))then
 (nG p s_ i).bind fun r_1=>
 (bif gB [(r_1,true)]then nG p s_ kz else some default).bind fun r_2=>
 (bif gB [((bif r_1 then r_2 else false),true)]then qO p s_ ((at' p.aa i.toNat).bus)else some default).bind fun r_3=>
 (bif gB [((bif (bif r_1 then r_2 else false)then(at' r_3 (((at' p.aa kz.toNat).bus).toNat))else false),true)]then xV (at' p.aa i.toNat) (at' p.aa kz.toNat)else some default).bind fun r_4=>
 aX ((gB [((bif r_1 then r_2 else false),true)]=true->(0:Int)<=i/\i<(p.aa.length:Int))/\(gB [((bif r_1 then r_2 else false),true)]=true->(0:Int)<=kz/\kz<(p.aa.length:Int))/\(gB [((bif r_1 then r_2 else false),true)]=true->(0:Int)<=(at' p.aa kz.toNat).bus/\(at' p.aa kz.toNat).bus<(r_3.length:Int))/\(gB [((bif (bif r_1 then r_2 else false)then(at' r_3 (((at' p.aa kz.toNat).bus).toNat))else false),true)]=true->(0:Int)<=i/\i<(p.aa.length:Int))/\(gB [((bif (bif r_1 then r_2 else false)then(at' r_3 (((at' p.aa kz.toNat).bus).toNat))else false),true)]=true->(0:Int)<=kz/\kz<(p.aa.length:Int))) (
 bif (bif (bif (bif r_1 then r_2 else false)then(at' r_3 (((at' p.aa kz.toNat).bus).toNat))else false)then r_4 else false)then
 aX (((out2.length+[(⟨i,kz⟩:ah)].length)*16<=140737488355328)/\(out2.length+[(⟨i,kz⟩:ah)].length<=4611686018427387904)) (
 some (.next (out2++[(⟨i,kz⟩:ah)],IntKind.wrap .i64 (kz+1))))
 else
 some (.next (out2,IntKind.wrap .i64 (kz+1))))
 else
 some (.done (.brk out2))
def yY (p:af) (s_:State):((List ah) × Int)->Option (bC ((List ah) × Int) (Ex (List ah) ((List ah) × Int))):=
 fun zz=>match zz with
 |(out,i)=>
 bif (decide (i<(p.aa.length:Int)))then
 Option.bind (aI (yE p s_ i) FUEL (out,IntKind.wrap .i64 (i+1))) fun o=>match o with
 | .ret v=>some v
 | .brk out3=>
 some (.next (out3,IntKind.wrap .i64 (i+1)))
 else
 some (.done (.brk out))
def jy (p:af) (s_:State):Option ((List ah) × Int):=
 (lC p s_).bind fun r_=>
 bif (!decide (r_=0))then
 some (([]:List ah),r_)
 else
 Option.bind (aI (yY p s_) FUEL (([]:List ah),0)) fun o=>match o with
 | .ret v=>some v
 | .brk out1=>
 some (out1,0)
def zH (a:List Int) (b:List Int):Int->Option (bC Int (Ex Unit Bool)):=
 fun i=>
 bif (decide (i<(a.length:Int)))then
 aX (((0:Int)<=i/\i<(a.length:Int))/\((0:Int)<=i/\i<(b.length:Int))) (
 bif (!decide ((at' a i.toNat)=(at' b i.toNat)))then
 some (.done (.ret false))
 else
 some (.next (IntKind.wrap .i64 (i+1))))
 else
 some (.done (.brk ()))
def oQ (a:List Int) (b:List Int):Option Bool:=
 bif (!decide ((a.length:Int)=(b.length:Int)))then
 some false
 else
 Option.bind (aI (zH a b) FUEL (0)) fun o=>match o with
 | .ret v=>some v
 | .brk _=>
 some true
def sQ (a:List ai) (b:List ai):Int->Option (bC Int (Ex Unit Bool)):=
 fun i=>
 bif (decide (i<(a.length:Int)))then
 (oQ ((at' a i.toNat).ag) ((at' b i.toNat).ag)).bind fun r_=>
 (bif gB [(!r_,false)]then oQ ((at' a i.toNat).aa) ((at' b i.toNat).aa)else some default).bind fun r_1=>
 aX (((0:Int)<=i/\i<(a.length:Int))/\((0:Int)<=i/\i<(b.length:Int))/\(gB [(!r_,false)]=true->(0:Int)<=i/\i<(a.length:Int))/\(gB [(!r_,false)]=true->(0:Int)<=i/\i<(b.length:Int))) (
 bif (bif (!r_)then true else(!r_1))then
 some (.done (.ret false))
 else
 some (.next (IntKind.wrap .i64 (i+1))))
 else
 some (.done (.brk ()))
def dJ (a:List ai) (b:List ai):Option Bool:=
 bif (!decide ((a.length:Int)=(b.length:Int)))then
 some false
 else
 Option.bind (aI (sQ a b) FUEL (0)) fun o=>match o with
 | .ret v=>some v
 | .brk _=>
 some true
def uU (a:List ah) (b:List ah):Int->Option (bC Int (Ex Unit Bool)):=
 fun i=>
 bif (decide (i<(a.length:Int)))then
 aX (((0:Int)<=i/\i<(a.length:Int))/\((0:Int)<=i/\i<(b.length:Int))) (
 bif (!((decide (((at' a i.toNat).e0)=((at' b i.toNat).e0))) && ((decide (((at' a i.toNat).e1)=((at' b i.toNat).e1))) && true)))then
 some (.done (.ret false))
 else
 some (.next (IntKind.wrap .i64 (i+1))))
 else
 some (.done (.brk ()))
def fD (a:List ah) (b:List ah):Option Bool:=
 bif (!decide ((a.length:Int)=(b.length:Int)))then
 some false
 else
 Option.bind (aI (uU a b) FUEL (0)) fun o=>match o with
 | .ret v=>some v
 | .brk _=>
 some true
def gG  :(ByteArray × Int)->Option (bC (ByteArray × Int) (Ex ByteArray ByteArray)):=
 fun zz=>match zz with
 |(s_,kz)=>
 bif (!decide (kz=0))then
 aX (10≠(0:Int)) (
 bif (decide ((Int.tmod kz 10)<0))then
 aX ((([IntKind.wrap .u8 (IntKind.wrap .i64 ((48:Int)+(IntKind.wrap .i64 (0 - (Int.tmod kz 10)))))].map (DV.int .u8)).all qi=true)/\((qo [IntKind.wrap .u8 (IntKind.wrap .i64 ((48:Int)+(IntKind.wrap .i64 (0 - (Int.tmod kz 10)))))]).size+s_.size<=9223372036854775807)) (
 aX (10≠(0:Int)) (
 some (.next (aA (qo [IntKind.wrap .u8 (IntKind.wrap .i64 ((48:Int)+(IntKind.wrap .i64 (0 - (Int.tmod kz 10)))))]) s_,IntKind.wrap .i64 (Int.tdiv kz 10)))))
 else
 aX ((([IntKind.wrap .u8 (IntKind.wrap .i64 ((48:Int)+(Int.tmod kz 10)))].map (DV.int .u8)).all qi=true)/\((qo [IntKind.wrap .u8 (IntKind.wrap .i64 ((48:Int)+(Int.tmod kz 10)))]).size+s_.size<=9223372036854775807)) (
 aX (10≠(0:Int)) (
 some (.next (aA (qo [IntKind.wrap .u8 (IntKind.wrap .i64 ((48:Int)+(Int.tmod kz 10)))]) s_,IntKind.wrap .i64 (Int.tdiv kz 10))))))
 else
 some (.done (.brk s_))
def aU (n:Int):Option ByteArray:=
 bif (decide (n=0))then
 some ⟨#[48]⟩
 else
 Option.bind (aI gG FUEL (⟨#[]⟩,n)) fun o=>match o with
 | .ret v=>some v
 | .brk s_1=>
 bif (decide (n<0))then
 aX ((⟨#[45]⟩:ByteArray).size+s_1.size<=9223372036854775807) (
 some (aA ⟨#[45]⟩ s_1))
 else
 some s_1
def iI:Option (List ByteArray):=
 some [(⟨#[]⟩:ByteArray),⟨#[103,114,105,100]⟩,⟨#[103,101,110,101,114,97,116,111,114]⟩,⟨#[98,97,116,116,101,114,121]⟩]
def jO:Option (List ByteArray):=
 some [(⟨#[]⟩:ByteArray),⟨#[99,97,98,108,101]⟩,⟨#[115,119,105,116,99,104]⟩,⟨#[98,114,101,97,107,101,114]⟩]
def Aj (p:af):(ByteArray × Int)->Option (bC (ByteArray × Int) (Ex ByteArray (ByteArray × Int))):=
 fun zz=>match zz with
 |(t,i)=>
 bif (decide (i<(p.aa.length:Int)))then
 aX ((0:Int)<=i/\i<(p.aa.length:Int)) (
 (aU ((at' p.aa i.toNat).bus)).bind fun r_2=>
 (iI).bind fun r_3=>
 (aU ((at' p.aa i.toNat).power)).bind fun r_4=>
 (aU ((at' p.aa i.toNat).bk)).bind fun r_5=>
 (aU ((at' p.aa i.toNat).ohm)).bind fun r_6=>
 aX ((t.size+(⟨#[115,111,117,114,99,101,32]⟩:ByteArray).size<=9223372036854775807)/\((aA t ⟨#[115,111,117,114,99,101,32]⟩).size+r_2.size<=9223372036854775807)/\((aA (aA t ⟨#[115,111,117,114,99,101,32]⟩) r_2).size+(⟨#[32]⟩:ByteArray).size<=9223372036854775807)/\((0:Int)<=(at' p.aa i.toNat).kind/\(at' p.aa i.toNat).kind<(r_3.length:Int))/\((aA (aA (aA t ⟨#[115,111,117,114,99,101,32]⟩) r_2) ⟨#[32]⟩).size+(at' r_3 (((at' p.aa i.toNat).kind).toNat)).size<=9223372036854775807)/\((aA (aA (aA (aA t ⟨#[115,111,117,114,99,101,32]⟩) r_2) ⟨#[32]⟩) (at' r_3 (((at' p.aa i.toNat).kind).toNat))).size+(⟨#[32]⟩:ByteArray).size<=9223372036854775807)/\((aA (aA (aA (aA (aA t ⟨#[115,111,117,114,99,101,32]⟩) r_2) ⟨#[32]⟩) (at' r_3 (((at' p.aa i.toNat).kind).toNat))) ⟨#[32]⟩).size+r_4.size<=9223372036854775807)/\((aA (aA (aA (aA (aA (aA t ⟨#[115,111,117,114,99,101,32]⟩) r_2) ⟨#[32]⟩) (at' r_3 (((at' p.aa i.toNat).kind).toNat))) ⟨#[32]⟩) r_4).size+(⟨#[32]⟩:ByteArray).size<=9223372036854775807)/\((aA (aA (aA (aA (aA (aA (aA t ⟨#[115,111,117,114,99,101,32]⟩) r_2) ⟨#[32]⟩) (at' r_3 (((at' p.aa i.toNat).kind).toNat))) ⟨#[32]⟩) r_4) ⟨#[32]⟩).size+r_5.size<=9223372036854775807)/\((aA (aA (aA (aA (aA (aA (aA (aA t ⟨#[115,111,117,114,99,101,32]⟩) r_2) ⟨#[32]⟩) (at' r_3 (((at' p.aa i.toNat).kind).toNat))) ⟨#[32]⟩) r_4) ⟨#[32]⟩) r_5).size+(⟨#[32]⟩:ByteArray).size<=9223372036854775807)/\((aA (aA (aA (aA (aA (aA (aA (aA (aA t ⟨#[115,111,117,114,99,101,32]⟩) r_2) ⟨#[32]⟩) (at' r_3 (((at' p.aa i.toNat).kind).toNat))) ⟨#[32]⟩) r_4) ⟨#[32]⟩) r_5) ⟨#[32]⟩).size+r_6.size<=9223372036854775807)/\((aA (aA (aA (aA (aA (aA (aA (aA (aA (aA t ⟨#[115,111,117,114,99,101,32]⟩) r_2) ⟨#[32]⟩) (at' r_3 (((at' p.aa i.toNat).kind).toNat))) ⟨#[32]⟩) r_4) ⟨#[32]⟩) r_5) ⟨#[32]⟩) r_6).size+(⟨#[10]⟩:ByteArray).size<=9223372036854775807)) (
 some (.next (aA (aA (aA (aA (aA (aA (aA (aA (aA (aA (aA t ⟨#[115,111,117,114,99,101,32]⟩) r_2) ⟨#[32]⟩) (at' r_3 (((at' p.aa i.toNat).kind).toNat))) ⟨#[32]⟩) r_4) ⟨#[32]⟩) r_5) ⟨#[32]⟩) r_6) ⟨#[10]⟩,IntKind.wrap .i64 (i+1)))))
 else
 some (.done (.brk t))
def zK (p:af) (i1:Int):(ByteArray × Int)->Option (bC (ByteArray × Int) (Ex ByteArray (bC (ByteArray × Int) (Ex ByteArray (ByteArray × Int))))):=
 fun zz=>match zz with
 |(t4,kz)=>
 bif (decide (kz<(((at' p.ae i1.toNat).trip).length:Int)))then
 (aU ((at' ((at' p.ae i1.toNat).trip) kz.toNat).bp)).bind fun r_12=>
 (aU ((at' ((at' p.ae i1.toNat).trip) kz.toNat).bj)).bind fun r_13=>
 aX ((t4.size+(⟨#[32]⟩:ByteArray).size<=9223372036854775807)/\((0:Int)<=kz/\kz<(((at' p.ae i1.toNat).trip).length:Int))/\((aA t4 ⟨#[32]⟩).size+r_12.size<=9223372036854775807)/\((aA (aA t4 ⟨#[32]⟩) r_12).size+(⟨#[58]⟩:ByteArray).size<=9223372036854775807)/\((aA (aA (aA t4 ⟨#[32]⟩) r_12) ⟨#[58]⟩).size+r_13.size<=9223372036854775807)) (
 some (.next (aA (aA (aA (aA t4 ⟨#[32]⟩) r_12) ⟨#[58]⟩) r_13,IntKind.wrap .i64 (kz+1))))
 else
 some (.done (.brk t4))
def zP (p:af):(ByteArray × Int)->Option (bC (ByteArray × Int) (Ex ByteArray (ByteArray × Int))):=
 fun zz=>match zz with
 |(t2,i1)=>
 bif (decide (i1<(p.ae.length:Int)))then
 aX ((0:Int)<=i1/\i1<(p.ae.length:Int)) (
 (aU ((at' p.ae i1.toNat).a)).bind fun r_7=>
 (aU ((at' p.ae i1.toNat).b)).bind fun r_8=>
 (jO).bind fun r_9=>
 (aU ((at' p.ae i1.toNat).most)).bind fun r_10=>
 (aU ((at' p.ae i1.toNat).ohm)).bind fun r_11=>
 aX ((t2.size+(⟨#[108,105,110,107,32]⟩:ByteArray).size<=9223372036854775807)/\((aA t2 ⟨#[108,105,110,107,32]⟩).size+r_7.size<=9223372036854775807)/\((aA (aA t2 ⟨#[108,105,110,107,32]⟩) r_7).size+(⟨#[32]⟩:ByteArray).size<=9223372036854775807)/\((aA (aA (aA t2 ⟨#[108,105,110,107,32]⟩) r_7) ⟨#[32]⟩).size+r_8.size<=9223372036854775807)/\((aA (aA (aA (aA t2 ⟨#[108,105,110,107,32]⟩) r_7) ⟨#[32]⟩) r_8).size+(⟨#[32]⟩:ByteArray).size<=9223372036854775807)/\((0:Int)<=(at' p.ae i1.toNat).kind/\(at' p.ae i1.toNat).kind<(r_9.length:Int))/\((aA (aA (aA (aA (aA t2 ⟨#[108,105,110,107,32]⟩) r_7) ⟨#[32]⟩) r_8) ⟨#[32]⟩).size+(at' r_9 (((at' p.ae i1.toNat).kind).toNat)).size<=9223372036854775807)/\((aA (aA (aA (aA (aA (aA t2 ⟨#[108,105,110,107,32]⟩) r_7) ⟨#[32]⟩) r_8) ⟨#[32]⟩) (at' r_9 (((at' p.ae i1.toNat).kind).toNat))).size+(⟨#[32]⟩:ByteArray).size<=9223372036854775807)/\((aA (aA (aA (aA (aA (aA (aA t2 ⟨#[108,105,110,107,32]⟩) r_7) ⟨#[32]⟩) r_8) ⟨#[32]⟩) (at' r_9 (((at' p.ae i1.toNat).kind).toNat))) ⟨#[32]⟩).size+r_10.size<=9223372036854775807)/\((aA (aA (aA (aA (aA (aA (aA (aA t2 ⟨#[108,105,110,107,32]⟩) r_7) ⟨#[32]⟩) r_8) ⟨#[32]⟩) (at' r_9 (((at' p.ae i1.toNat).kind).toNat))) ⟨#[32]⟩) r_10).size+(⟨#[32]⟩:ByteArray).size<=9223372036854775807)/\((aA (aA (aA (aA (aA (aA (aA (aA (aA t2 ⟨#[108,105,110,107,32]⟩) r_7) ⟨#[32]⟩) r_8) ⟨#[32]⟩) (at' r_9 (((at' p.ae i1.toNat).kind).toNat))) ⟨#[32]⟩) r_10) ⟨#[32]⟩).size+r_11.size<=9223372036854775807)) (
 Option.bind (aI (zK p i1) FUEL (aA (aA (aA (aA (aA (aA (aA (aA (aA (aA t2 ⟨#[108,105,110,107,32]⟩) r_7) ⟨#[32]⟩) r_8) ⟨#[32]⟩) (at' r_9 (((at' p.ae i1.toNat).kind).toNat))) ⟨#[32]⟩) r_10) ⟨#[32]⟩) r_11,0)) fun o=>match o with
 | .ret v=>some v
 | .brk t5=>
 aX (t5.size+(⟨#[10]⟩:ByteArray).size<=9223372036854775807) (
 some (.next (aA t5 ⟨#[10]⟩,IntKind.wrap .i64 (i1+1))))))
 else
 some (.done (.brk t2))
def zD (p:af):(ByteArray × Int)->Option (bC (ByteArray × Int) (Ex ByteArray (ByteArray × Int))):=
 fun zz=>match zz with
 |(t6,i2)=>
 bif (decide (i2<(p.ac.length:Int)))then
 aX ((0:Int)<=i2/\i2<(p.ac.length:Int)) (
 (aU (((at' p.ac i2.toNat).aw).e0)).bind fun r_14=>
 (aU (((at' p.ac i2.toNat).aw).e1)).bind fun r_15=>
 (aU ((at' p.ac i2.toNat).power)).bind fun r_16=>
 (aU ((at' p.ac i2.toNat).bi)).bind fun r_17=>
 aX ((t6.size+(⟨#[114,97,99,107,32]⟩:ByteArray).size<=9223372036854775807)/\((aA t6 ⟨#[114,97,99,107,32]⟩).size+r_14.size<=9223372036854775807)/\((aA (aA t6 ⟨#[114,97,99,107,32]⟩) r_14).size+(⟨#[32]⟩:ByteArray).size<=9223372036854775807)/\((aA (aA (aA t6 ⟨#[114,97,99,107,32]⟩) r_14) ⟨#[32]⟩).size+r_15.size<=9223372036854775807)/\((aA (aA (aA (aA t6 ⟨#[114,97,99,107,32]⟩) r_14) ⟨#[32]⟩) r_15).size+(⟨#[32]⟩:ByteArray).size<=9223372036854775807)/\((aA (aA (aA (aA (aA t6 ⟨#[114,97,99,107,32]⟩) r_14) ⟨#[32]⟩) r_15) ⟨#[32]⟩).size+r_16.size<=9223372036854775807)/\((aA (aA (aA (aA (aA (aA t6 ⟨#[114,97,99,107,32]⟩) r_14) ⟨#[32]⟩) r_15) ⟨#[32]⟩) r_16).size+(⟨#[32]⟩:ByteArray).size<=9223372036854775807)/\((aA (aA (aA (aA (aA (aA (aA t6 ⟨#[114,97,99,107,32]⟩) r_14) ⟨#[32]⟩) r_15) ⟨#[32]⟩) r_16) ⟨#[32]⟩).size+r_17.size<=9223372036854775807)/\((aA (aA (aA (aA (aA (aA (aA (aA t6 ⟨#[114,97,99,107,32]⟩) r_14) ⟨#[32]⟩) r_15) ⟨#[32]⟩) r_16) ⟨#[32]⟩) r_17).size+(⟨#[10]⟩:ByteArray).size<=9223372036854775807)) (
 some (.next (aA (aA (aA (aA (aA (aA (aA (aA (aA t6 ⟨#[114,97,99,107,32]⟩) r_14) ⟨#[32]⟩) r_15) ⟨#[32]⟩) r_16) ⟨#[32]⟩) r_17) ⟨#[10]⟩,IntKind.wrap .i64 (i2+1)))))
 else
 some (.done (.brk t6))
def oZ (p:af):Option (ByteArray × Int):=
 (fe p).bind fun r_=>
 bif (!decide (r_=0))then
 some (⟨#[]⟩,r_)
 else
 (aU p.ag).bind fun r_1=>
 aX (((⟨#[112,108,97,110,116,32]⟩:ByteArray).size+r_1.size<=9223372036854775807)/\((aA ⟨#[112,108,97,110,116,32]⟩ r_1).size+(⟨#[10]⟩:ByteArray).size<=9223372036854775807)) (
 Option.bind (aI (Aj p) FUEL (aA (aA ⟨#[112,108,97,110,116,32]⟩ r_1) ⟨#[10]⟩,0)) fun o=>match o with
 | .ret v=>some v
 | .brk t1=>
 Option.bind (aI (zP p) FUEL (t1,0)) fun o=>match o with
 | .ret v=>some v
 | .brk t3=>
 Option.bind (aI (zD p) FUEL (t3,0)) fun o=>match o with
 | .ret v=>some v
 | .brk t7=>
 some (t7,0))
def kG:Option (List (ByteArray × Int)):=
 some (aG bn ⟨#[98,97,116,116,101,114,121]⟩ 3 (aG bn ⟨#[103,101,110,101,114,97,116,111,114]⟩ 2 (aG bn ⟨#[103,114,105,100]⟩ 1 ([]:(List (ByteArray × Int))))))
def mr:Option (List (ByteArray × Int)):=
 some (aG bn ⟨#[98,114,101,97,107,101,114]⟩ 3 (aG bn ⟨#[115,119,105,116,99,104]⟩ 2 (aG bn ⟨#[99,97,98,108,101]⟩ 1 ([]:(List (ByteArray × Int))))))
def qG:Option (List (ByteArray × Int)):=
 some (aG bn ⟨#[114,97,99,107]⟩ 4 (aG bn ⟨#[108,105,110,107]⟩ 3 (aG bn ⟨#[115,111,117,114,99,101]⟩ 2 (aG bn ⟨#[112,108,97,110,116]⟩ 1 ([]:(List (ByteArray × Int)))))))
def jv (words:List (ByteArray × Int)) (w_:ByteArray):Option (Option Int):=
 eT (dP ((bg bn w_ words).isSome)) (fun r_=>
 some (some ((bg bn w_ words).getD 0))) (
 some none)
def gJ (words:List (ByteArray × Int)) (w_:ByteArray):Option (Option Int):=
 eT (dP ((bg bn w_ words).isSome)) (fun r_=>
 some (some ((bg bn w_ words).getD 0))) (
 some none)
def fF (r_:List ByteArray):((List au) × Int)->Option (bC ((List au) × Int) (Ex (List au) (Option (Int × af)))):=
 fun zz=>match zz with
 |(x5,t122)=>
 bif (decide (t122<(((r_.length - 6):Nat):Int)))then
 aX ((0:Int)<=t122/\t122<((r_.drop 6).length:Int)) (
 (jA (at' (r_.drop 6) t122.toNat) ⟨#[58]⟩).bind fun r_19=>
 eT (dP r_19.2.2) (fun r_20=>
 eT (aZ r_19.1) (fun r_21=>
 eT (aZ r_19.2.1) (fun r_22=>
 aX (((x5.length+[(⟨r_21,r_22⟩:au)].length)*16<=140737488355328)/\(x5.length+[(⟨r_21,r_22⟩:au)].length<=4611686018427387904)) (
 some (.next (x5++[(⟨r_21,r_22⟩:au)],IntKind.wrap .i64 (t122+1))))) (
 some (.done (.ret none)))) (
 some (.done (.ret none)))) (
 some (.done (.ret none))))
 else
 some (.done (.brk x5))
def om (rank:Int) (s_:ByteArray) (plant:af):Option (Option (Int × af)):=
 (jo s_ ⟨#[32]⟩).bind fun r_=>
 (qG).bind fun r_1=>
 aX ((0:Int)<=0/\0<(r_.length:Int)) (
 eT (dP (bif (bif (bg bn (at' r_ 0) r_1).isSome then(decide (rank<=((bg bn (at' r_ 0) r_1).getD 0)))else false)then((decide (1<((bg bn (at' r_ 0) r_1).getD 0)))==(decide (0<rank)))else false)) (fun r_2=>
 bif (decide (((bg bn (at' r_ 0) r_1).getD 0)=1))then
 eT (dP (decide ((r_.length:Int)=2))) (fun r_3=>
 eT (aZ (at' r_ 1)) (fun r_4=>
 aX ((0:Int)<=1/\1<(r_.length:Int)) (
 some (some ((bg bn (at' r_ 0) r_1).getD 0,(⟨r_4,plant.aa,plant.ae,plant.ac⟩:af))))) (
 aX ((0:Int)<=1/\1<(r_.length:Int)) (
 some none))) (
 some none)
 else
 bif (decide (((bg bn (at' r_ 0) r_1).getD 0)=2))then
 eT (dP (decide ((r_.length:Int)=6))) (fun r_5=>
 eT (aZ (at' r_ 1)) (fun r_6=>
 (kG).bind fun r_7=>
 eT (jv r_7 (at' r_ 2)) (fun r_8=>
 eT (aZ (at' r_ 3)) (fun r_9=>
 eT (aZ (at' r_ 4)) (fun r_10=>
 eT (aZ (at' r_ 5)) (fun r_11=>
 aX (((0:Int)<=1/\1<(r_.length:Int))/\((0:Int)<=2/\2<(r_.length:Int))/\((0:Int)<=3/\3<(r_.length:Int))/\((0:Int)<=4/\4<(r_.length:Int))/\((0:Int)<=5/\5<(r_.length:Int))/\((plant.aa.length+[(⟨r_6,r_8,r_9,r_10,r_11⟩:Source)].length)*40<=140737488355328)/\(plant.aa.length+[(⟨r_6,r_8,r_9,r_10,r_11⟩:Source)].length<=4611686018427387904)) (
 some (some ((bg bn (at' r_ 0) r_1).getD 0,(⟨plant.ag,plant.aa++[(⟨r_6,r_8,r_9,r_10,r_11⟩:Source)],plant.ae,plant.ac⟩:af))))) (
 aX (((0:Int)<=1/\1<(r_.length:Int))/\((0:Int)<=2/\2<(r_.length:Int))/\((0:Int)<=3/\3<(r_.length:Int))/\((0:Int)<=4/\4<(r_.length:Int))/\((0:Int)<=5/\5<(r_.length:Int))) (
 some none))) (
 aX (((0:Int)<=1/\1<(r_.length:Int))/\((0:Int)<=2/\2<(r_.length:Int))/\((0:Int)<=3/\3<(r_.length:Int))/\((0:Int)<=4/\4<(r_.length:Int))/\((0:Int)<=5/\5<(r_.length:Int))) (
 some none))) (
 aX (((0:Int)<=1/\1<(r_.length:Int))/\((0:Int)<=2/\2<(r_.length:Int))/\((0:Int)<=3/\3<(r_.length:Int))/\((0:Int)<=4/\4<(r_.length:Int))/\((0:Int)<=5/\5<(r_.length:Int))) (
 some none))) (
 aX (((0:Int)<=1/\1<(r_.length:Int))/\((0:Int)<=2/\2<(r_.length:Int))/\((0:Int)<=3/\3<(r_.length:Int))/\((0:Int)<=4/\4<(r_.length:Int))/\((0:Int)<=5/\5<(r_.length:Int))) (
 some none))) (
 aX (((0:Int)<=1/\1<(r_.length:Int))/\((0:Int)<=2/\2<(r_.length:Int))/\((0:Int)<=3/\3<(r_.length:Int))/\((0:Int)<=4/\4<(r_.length:Int))/\((0:Int)<=5/\5<(r_.length:Int))) (
 some none))) (
 some none)
 else
 bif (decide (((bg bn (at' r_ 0) r_1).getD 0)=3))then
 eT (dP (decide (6<=(r_.length:Int)))) (fun r_12=>
 eT (aZ (at' r_ 1)) (fun r_13=>
 eT (aZ (at' r_ 2)) (fun r_14=>
 (mr).bind fun r_15=>
 eT (gJ r_15 (at' r_ 3)) (fun r_16=>
 eT (aZ (at' r_ 4)) (fun r_17=>
 eT (aZ (at' r_ 5)) (fun r_18=>
 aX (((0:Int)<=1/\1<(r_.length:Int))/\((0:Int)<=2/\2<(r_.length:Int))/\((0:Int)<=3/\3<(r_.length:Int))/\((0:Int)<=4/\4<(r_.length:Int))/\((0:Int)<=5/\5<(r_.length:Int))) (
 aX ((0:Int)<=(6:Int)/\(6:Int)<=(r_.length:Int)) (
 Option.bind (aI (fF r_) FUEL (([]:List au),0)) fun o=>match o with
 | .ret v=>some v
 | .brk x51=>
 aX (((plant.ae.length+[(⟨r_13,r_14,r_16,r_17,r_18,x51⟩:Link)].length)*64<=140737488355328)/\(plant.ae.length+[(⟨r_13,r_14,r_16,r_17,r_18,x51⟩:Link)].length<=4611686018427387904)) (
 some (some ((bg bn (at' r_ 0) r_1).getD 0,(⟨plant.ag,plant.aa,plant.ae++[(⟨r_13,r_14,r_16,r_17,r_18,x51⟩:Link)],plant.ac⟩:af))))))) (
 aX (((0:Int)<=1/\1<(r_.length:Int))/\((0:Int)<=2/\2<(r_.length:Int))/\((0:Int)<=3/\3<(r_.length:Int))/\((0:Int)<=4/\4<(r_.length:Int))/\((0:Int)<=5/\5<(r_.length:Int))) (
 some none))) (
 aX (((0:Int)<=1/\1<(r_.length:Int))/\((0:Int)<=2/\2<(r_.length:Int))/\((0:Int)<=3/\3<(r_.length:Int))/\((0:Int)<=4/\4<(r_.length:Int))/\((0:Int)<=5/\5<(r_.length:Int))) (
 some none))) (
 aX (((0:Int)<=1/\1<(r_.length:Int))/\((0:Int)<=2/\2<(r_.length:Int))/\((0:Int)<=3/\3<(r_.length:Int))/\((0:Int)<=4/\4<(r_.length:Int))/\((0:Int)<=5/\5<(r_.length:Int))) (
 some none))) (
 aX (((0:Int)<=1/\1<(r_.length:Int))/\((0:Int)<=2/\2<(r_.length:Int))/\((0:Int)<=3/\3<(r_.length:Int))/\((0:Int)<=4/\4<(r_.length:Int))/\((0:Int)<=5/\5<(r_.length:Int))) (
 some none))) (
 aX (((0:Int)<=1/\1<(r_.length:Int))/\((0:Int)<=2/\2<(r_.length:Int))/\((0:Int)<=3/\3<(r_.length:Int))/\((0:Int)<=4/\4<(r_.length:Int))/\((0:Int)<=5/\5<(r_.length:Int))) (
 some none))) (
 some none)
 else
 bif (decide (((bg bn (at' r_ 0) r_1).getD 0)=4))then
 eT (dP (decide ((r_.length:Int)=5))) (fun r_23=>
 eT (aZ (at' r_ 1)) (fun r_24=>
 eT (aZ (at' r_ 2)) (fun r_25=>
 eT (aZ (at' r_ 3)) (fun r_26=>
 eT (aZ (at' r_ 4)) (fun r_27=>
 aX (((0:Int)<=1/\1<(r_.length:Int))/\((0:Int)<=2/\2<(r_.length:Int))/\((0:Int)<=3/\3<(r_.length:Int))/\((0:Int)<=4/\4<(r_.length:Int))/\((plant.ac.length+[(⟨(⟨r_24,r_25⟩:ah),r_26,r_27⟩:aD)].length)*32<=140737488355328)/\(plant.ac.length+[(⟨(⟨r_24,r_25⟩:ah),r_26,r_27⟩:aD)].length<=4611686018427387904)) (
 some (some ((bg bn (at' r_ 0) r_1).getD 0,(⟨plant.ag,plant.aa,plant.ae,plant.ac++[(⟨(⟨r_24,r_25⟩:ah),r_26,r_27⟩:aD)]⟩:af))))) (
 aX (((0:Int)<=1/\1<(r_.length:Int))/\((0:Int)<=2/\2<(r_.length:Int))/\((0:Int)<=3/\3<(r_.length:Int))/\((0:Int)<=4/\4<(r_.length:Int))) (
 some none))) (
 aX (((0:Int)<=1/\1<(r_.length:Int))/\((0:Int)<=2/\2<(r_.length:Int))/\((0:Int)<=3/\3<(r_.length:Int))/\((0:Int)<=4/\4<(r_.length:Int))) (
 some none))) (
 aX (((0:Int)<=1/\1<(r_.length:Int))/\((0:Int)<=2/\2<(r_.length:Int))/\((0:Int)<=3/\3<(r_.length:Int))/\((0:Int)<=4/\4<(r_.length:Int))) (
 some none))) (
 aX (((0:Int)<=1/\1<(r_.length:Int))/\((0:Int)<=2/\2<(r_.length:Int))/\((0:Int)<=3/\3<(r_.length:Int))/\((0:Int)<=4/\4<(r_.length:Int))) (
 some none))) (
 some none)
 else
 some (some ((bg bn (at' r_ 0) r_1).getD 0,plant))) (
 some none))
def bX  :(Int × (List Source) × (List Link) × (List aD) × ByteArray × Int × Int)->Option (bC (Int × (List Source) × (List Link) × (List aD) × ByteArray × Int × Int) (Ex (Int × (List Source) × (List Link) × (List aD) × Int) (Sum (Int × (List Source) × (List Link) × (List aD) × Bool × Int) (Int × (List Source) × (List Link) × (List aD) × Int)))):=
 fun zz=>match zz with
 |(o0,o1,o2,o3,text1,n,rank)=>
 bif (!((text1:ByteArray).toList==(⟨#[]⟩:ByteArray).toList))then
 (jA text1 ⟨#[10]⟩).bind fun r_=>
 eT (dP r_.2.2) (fun r_1=>
 eT (om rank r_.1 (⟨o0,o1,o2,o3⟩:af)) (fun r_2=>
 some (.next (r_2.2.ag,r_2.2.aa,r_2.2.ae,r_2.2.ac,r_.2.1,IntKind.wrap .i64 (n+1),r_2.1))) (
 some (.done (.ret (.inr (o0,o1,o2,o3,n)))))) (
 some (.done (.ret (.inr (o0,o1,o2,o3,n)))))
 else
 some (.done (.brk (o0,o1,o2,o3,n)))
def nD (text:ByteArray):Option (af × Int × Bool):=
 Option.bind (α:=Unit) (
 some ()) fun z_=>
 Option.bind (α:=(Sum (Int × (List Source) × (List Link) × (List aD) × Bool × Int) (Int × (List Source) × (List Link) × (List aD) × Int))) (
 Option.bind (aI bX FUEL (0,([]:List Source),([]:List Link),([]:List aD),text,0,0)) fun o=>match o with
 | .ret v=>some v
 | .brk (o01,o11,o21,o31,n1)=>
 some (.inl (o01,o11,o21,o31,decide (0<n1),n1))) fun o=>match o with
 | .inl w_=>
 some ((⟨w_.1,w_.2.1,w_.2.2.1,w_.2.2.2.1⟩:af),w_.2.2.2.2.2,w_.2.2.2.2.1)
 | .inr x=>
 some ((⟨x.1,x.2.1,x.2.2.1,x.2.2.2.1⟩:af),x.2.2.2.2,false)
def dX (text:ByteArray):Option (af × Int × Int):=
 bif (decide (131072<((text.size:Nat):Int)))then
 some ((⟨0,([]:List Source),([]:List Link),([]:List aD)⟩:af),0,2)
 else
 (nD text).bind fun r_=>
 bif (!r_.2.2)then
 some ((⟨0,([]:List Source),([]:List Link),([]:List aD)⟩:af),r_.2.1,3)
 else
 (fq r_.1).bind fun r_1=>
 bif (!decide (r_1=0))then
 some ((⟨0,([]:List Source),([]:List Link),([]:List aD)⟩:af),r_.2.1,r_1)
 else
 some (r_.1,0,0)
def iT (s_:ByteArray):((List ByteArray) × Int)->Option (bC ((List ByteArray) × Int) (Ex (List ByteArray) (List ByteArray))):=
 fun zz=>match zz with
 |(out,i)=>
 bif (decide (i<((s_.size:Nat):Int)))then
 aX ((0:Int)<=i/\i<((s_.size:Nat):Int)) (
 bif (decide ((at' (dH s_) i.toNat)=32))then
 aX (((out.length+[(⟨#[]⟩:ByteArray)].length)*16<=140737488355328)/\(out.length+[(⟨#[]⟩:ByteArray)].length<=4611686018427387904)) (
 some (.next (out++[(⟨#[]⟩:ByteArray)],IntKind.wrap .i64 (i+1))))
 else
 aX (((0:Int)<=(IntKind.wrap .i64 ((out.length:Int) - 1))/\(IntKind.wrap .i64 ((out.length:Int) - 1))<(out.length:Int))/\((0:Int)<=i/\i<=(IntKind.wrap .i64 (i+1))/\(IntKind.wrap .i64 (i+1))<=((s_.size:Nat):Int))/\((at' out ((IntKind.wrap .i64 ((out.length:Int) - 1)).toNat)).size+(bD s_ i.toNat ((IntKind.wrap .i64 (i+1)).toNat)).size<=9223372036854775807)) (
 some (.next (out.set ((IntKind.wrap .i64 ((out.length:Int) - 1)).toNat) (aA (at' out ((IntKind.wrap .i64 ((out.length:Int) - 1)).toNat)) (bD s_ i.toNat ((IntKind.wrap .i64 (i+1)).toNat))),IntKind.wrap .i64 (i+1)))))
 else
 some (.done (.brk out))
def nE (s_:ByteArray):Option (List ByteArray):=
 Option.bind (aI (iT s_) FUEL ([(⟨#[]⟩:ByteArray)],0)) fun o=>match o with
 | .ret v=>some v
 | .brk out1=>
 some out1
def fU (l:List ByteArray) (w_:ByteArray):Int->Option (bC Int (Ex Unit Int)):=
 fun i=>
 bif (decide (i<(l.length:Int)))then
 aX ((0:Int)<=i/\i<(l.length:Int)) (
 bif (((at' l i.toNat):ByteArray).toList==(w_:ByteArray).toList)then
 some (.done (.ret i))
 else
 some (.next (IntKind.wrap .i64 (i+1))))
 else
 some (.done (.brk ()))
def fO (l:List ByteArray) (w_:ByteArray):Option Int:=
 Option.bind (aI (fU l w_) FUEL (1)) fun o=>match o with
 | .ret v=>some v
 | .brk _=>
 some 0
def qA (s_:ByteArray):(Int × Int)->Option (bC (Int × Int) (Ex Int (Int × Bool))):=
 fun zz=>match zz with
 |(n,i)=>
 bif (decide (i<(((bD s_ 1 s_.size).size:Nat):Int)))then
 aX (((0:Int)<=i/\i<(((bD s_ 1 s_.size).size:Nat):Int))/\(gB [(decide ((at' (dH (bD s_ 1 s_.size)) i.toNat)<48),false)]=true->(0:Int)<=i/\i<(((bD s_ 1 s_.size).size:Nat):Int))) (
 bif (bif (decide ((at' (dH (bD s_ 1 s_.size)) i.toNat)<48))then true else(decide (57<(at' (dH (bD s_ 1 s_.size)) i.toNat))))then
 some (.done (.ret (0,false)))
 else
 aX ((0:Int)<=i/\i<(((bD s_ 1 s_.size).size:Nat):Int)) (
 some (.next (IntKind.wrap .i64 ((IntKind.wrap .i64 ((IntKind.wrap .i64 ((10:Int)*n))+(IntKind.wrap .i64 (at' (dH (bD s_ 1 s_.size)) i.toNat)))) - 48),IntKind.wrap .i64 (i+1)))))
 else
 some (.done (.brk n))
def d9 (s_:ByteArray):(Int × Int)->Option (bC (Int × Int) (Ex Int (Int × Bool))):=
 fun zz=>match zz with
 |(n2,i1)=>
 bif (decide (i1<((s_.size:Nat):Int)))then
 aX (((0:Int)<=i1/\i1<((s_.size:Nat):Int))/\(gB [(decide ((at' (dH s_) i1.toNat)<48),false)]=true->(0:Int)<=i1/\i1<((s_.size:Nat):Int))) (
 bif (bif (decide ((at' (dH s_) i1.toNat)<48))then true else(decide (57<(at' (dH s_) i1.toNat))))then
 some (.done (.ret (0,false)))
 else
 aX ((0:Int)<=i1/\i1<((s_.size:Nat):Int)) (
 some (.next (IntKind.wrap .i64 ((IntKind.wrap .i64 ((IntKind.wrap .i64 ((10:Int)*n2))+(IntKind.wrap .i64 (at' (dH s_) i1.toNat)))) - 48),IntKind.wrap .i64 (i1+1)))))
 else
 some (.done (.brk n2))
def iM (s_:ByteArray):Option (Int × Bool):=
 aX (gB [(decide (0<((s_.size:Nat):Int)),true)]=true->(0:Int)<=(0:Int)/\(0:Int)<((s_.size:Nat):Int)) (
 bif (bif (decide (0<((s_.size:Nat):Int)))then(decide ((at' (dH s_) 0)=45))else false)then
 aX ((0:Int)<=(1:Int)/\(1:Int)<=((s_.size:Nat):Int)) (
 bif (bif (decide ((((bD s_ 1 s_.size).size:Nat):Int)<1))then true else(decide (9<(((bD s_ 1 s_.size).size:Nat):Int))))then
 some (0,false)
 else
 Option.bind (aI (qA s_) FUEL (0,0)) fun o=>match o with
 | .ret v=>some v
 | .brk n1=>
 bif (!(((bD s_ 1 s_.size):ByteArray).toList==(s_:ByteArray).toList))then
 (aU (IntKind.wrap .i64 (0 - n1))).bind fun r_=>
 some (IntKind.wrap .i64 (0 - n1),(r_:ByteArray).toList==(s_:ByteArray).toList)
 else
 (aU n1).bind fun r_1=>
 some (n1,(r_1:ByteArray).toList==(s_:ByteArray).toList))
 else
 bif (bif (decide (((s_.size:Nat):Int)<1))then true else(decide (9<((s_.size:Nat):Int))))then
 some (0,false)
 else
 Option.bind (aI (d9 s_) FUEL (0,0)) fun o=>match o with
 | .ret v=>some v
 | .brk n3=>
 bif (!((s_:ByteArray).toList==(s_:ByteArray).toList))then
 (aU (IntKind.wrap .i64 (0 - n3))).bind fun r_2=>
 some (IntKind.wrap .i64 (0 - n3),(r_2:ByteArray).toList==(s_:ByteArray).toList)
 else
 (aU n3).bind fun r_3=>
 some (n3,(r_3:ByteArray).toList==(s_:ByteArray).toList))
def gu (l:List ByteArray) (i:Int):(Int × Int)->Option (bC (Int × Int) (Ex Int (bC ((List au) × Int) (Ex (List au) ((List au) × Bool))))):=
 fun zz=>match zz with
 |(at_,kz)=>
 aX ((0:Int)<=i/\i<(l.length:Int)) (
 bif (decide (kz<(((at' l i.toNat).size:Nat):Int)))then
 aX (((0:Int)<=i/\i<(l.length:Int))/\((0:Int)<=kz/\kz<(((at' l i.toNat).size:Nat):Int))) (
 bif (bif (decide ((at' (dH (at' l i.toNat)) kz.toNat)=58))then(decide (at_<0))else false)then
 some (.next (kz,IntKind.wrap .i64 (kz+1)))
 else
 some (.next (at_,IntKind.wrap .i64 (kz+1))))
 else
 some (.done (.brk at_)))
def eO (l:List ByteArray):((List au) × Int)->Option (bC ((List au) × Int) (Ex (List au) ((List au) × Bool))):=
 fun zz=>match zz with
 |(out,i)=>
 bif (decide (i<(l.length:Int)))then
 Option.bind (aI (gu l i) FUEL (-1,0)) fun o=>match o with
 | .ret v=>some v
 | .brk at_1=>
 bif (decide (at_1<0))then
 some (.done (.ret (([]:List au),false)))
 else
 (iM (bD (at' l i.toNat) 0 at_1.toNat)).bind fun r_=>
 aX (((0:Int)<=i/\i<(l.length:Int))/\((0:Int)<=at_1/\at_1<=(((at' l i.toNat).size:Nat):Int))) (
 (iM (bD (at' l i.toNat) ((IntKind.wrap .i64 (at_1+1)).toNat) (at' l i.toNat).size)).bind fun r_1=>
 aX (((0:Int)<=i/\i<(l.length:Int))/\((0:Int)<=(IntKind.wrap .i64 (at_1+1))/\(IntKind.wrap .i64 (at_1+1))<=(((at' l i.toNat).size:Nat):Int))) (
 bif (bif (!r_.2)then true else(!r_1.2))then
 some (.done (.ret (([]:List au),false)))
 else
 aX (((out.length+[(⟨r_.1,r_1.1⟩:au)].length)*16<=140737488355328)/\(out.length+[(⟨r_.1,r_1.1⟩:au)].length<=4611686018427387904)) (
 some (.next (out++[(⟨r_.1,r_1.1⟩:au)],IntKind.wrap .i64 (i+1))))))
 else
 some (.done (.brk out))
def nC (l:List ByteArray):Option ((List au) × Bool):=
 Option.bind (aI (eO l) FUEL (([]:List au),0)) fun o=>match o with
 | .ret v=>some v
 | .brk out1=>
 some (out1,true)
def aR (p:af) (r_:List ByteArray) (r_1:Int):(Int × Int × Int × Int × Int × Int × Int)->Option (bC (Int × Int × Int × Int × Int × Int × Int) (Ex (Int × Int × Int × Int × Int × Int) (af × Int))):=
 fun zz=>match zz with
 |(n0,n11,n2,n3,n4,n5,i1)=>
 bif (bif (decide (i1<(r_.length:Int)))then(decide (i1<6))else false)then
 bif (bif (decide (r_1=2))then(decide (i1=2))else false)then
 aX (i1=2) (
 (iI).bind fun r_4=>
 (fO r_4 (at' r_ 2)).bind fun r_5=>
 aX ((0:Int)<=2/\2<(r_.length:Int)) (
 bif (decide (r_5=0))then
 some (.done (.ret (p,0)))
 else
 some (.next (n0,n11,r_5,n3,n4,n5,3))))
 else
 bif (bif (decide (r_1=3))then(decide (i1=3))else false)then
 aX (i1=3) (
 (jO).bind fun r_8=>
 (fO r_8 (at' r_ 3)).bind fun r_9=>
 aX ((0:Int)<=3/\3<(r_.length:Int)) (
 bif (decide (r_9=0))then
 some (.done (.ret (p,0)))
 else
 some (.next (n0,n11,n2,r_9,n4,n5,4))))
 else
 (iM (at' r_ i1.toNat)).bind fun r_10=>
 aX ((0:Int)<=i1/\i1<(r_.length:Int)) (
 bif (!r_10.2)then
 some (.done (.ret (p,0)))
 else
 bif (decide (i1=0))then
 some (.next (r_10.1,n11,n2,n3,n4,n5,1))
 else
 bif (decide (i1=1))then
 some (.next (n0,r_10.1,n2,n3,n4,n5,2))
 else
 bif (decide (i1=2))then
 some (.next (n0,n11,r_10.1,n3,n4,n5,3))
 else
 bif (decide (i1=3))then
 some (.next (n0,n11,n2,r_10.1,n4,n5,4))
 else
 bif (decide (i1=4))then
 some (.next (n0,n11,n2,n3,r_10.1,n5,5))
 else
 aX (i1=5) (
 some (.next (n0,n11,n2,n3,n4,r_10.1,6))))
 else
 some (.done (.brk (n0,n11,n2,n3,n4,n5)))
def gY (p:af) (rank:Int) (s_:ByteArray):Option (af × Int):=
 (nE s_).bind fun r_=>
 (fO [(⟨#[]⟩:ByteArray),⟨#[112,108,97,110,116]⟩,⟨#[115,111,117,114,99,101]⟩,⟨#[108,105,110,107]⟩,⟨#[114,97,99,107]⟩] (at' r_ 0)).bind fun r_1=>
 aX ((0:Int)<=0/\0<(r_.length:Int)) (
 bif (bif (bif (decide (r_1=0))then true else(decide (r_1<rank)))then true else(!((decide (r_1=1))==(decide (rank=0)))))then
 some (p,0)
 else
 Option.bind (aI (aR p r_ r_1) FUEL (0,0,0,0,0,0,1)) fun o=>match o with
 | .ret v=>some v
 | .brk (n01,n12,n21,n31,n41,n51)=>
 bif (decide (r_1=1))then
 bif (!decide ((r_.length:Int)=2))then
 some (p,0)
 else
 some ((⟨n12,p.aa,p.ae,p.ac⟩:af),r_1)
 else
 bif (decide (r_1=2))then
 bif (!decide ((r_.length:Int)=6))then
 some (p,0)
 else
 aX (((p.aa.length+[(⟨n12,n21,n31,n41,n51⟩:Source)].length)*40<=140737488355328)/\(p.aa.length+[(⟨n12,n21,n31,n41,n51⟩:Source)].length<=4611686018427387904)) (
 some ((⟨p.ag,p.aa++[(⟨n12,n21,n31,n41,n51⟩:Source)],p.ae,p.ac⟩:af),r_1))
 else
 bif (decide (r_1=3))then
 bif (decide ((r_.length:Int)<6))then
 some (p,0)
 else
 (nC (r_.drop 6)).bind fun r_11=>
 aX ((0:Int)<=(6:Int)/\(6:Int)<=(r_.length:Int)) (
 bif (!r_11.2)then
 some (p,0)
 else
 aX (((p.ae.length+[(⟨n12,n21,n31,n41,n51,r_11.1⟩:Link)].length)*64<=140737488355328)/\(p.ae.length+[(⟨n12,n21,n31,n41,n51,r_11.1⟩:Link)].length<=4611686018427387904)) (
 some ((⟨p.ag,p.aa,p.ae++[(⟨n12,n21,n31,n41,n51,r_11.1⟩:Link)],p.ac⟩:af),r_1)))
 else
 bif (decide (r_1=4))then
 bif (!decide ((r_.length:Int)=5))then
 some (p,0)
 else
 aX (((p.ac.length+[(⟨(⟨n12,n21⟩:ah),n31,n41⟩:aD)].length)*32<=140737488355328)/\(p.ac.length+[(⟨(⟨n12,n21⟩:ah),n31,n41⟩:aD)].length<=4611686018427387904)) (
 some ((⟨p.ag,p.aa,p.ae,p.ac++[(⟨(⟨n12,n21⟩:ah),n31,n41⟩:aD)]⟩:af),r_1))
 else
 some (p,r_1))
def dV (text:ByteArray):Int->Option (bC Int (Ex Int (bC (Int × (List Source) × (List Link) × (List aD) × Int × Int × Int) (Ex (Int × (List Source) × (List Link) × (List aD) × Int) (af × Int × Int))))):=
 fun to_=>
 aX (gB [(decide (to_<((text.size:Nat):Int)),true)]=true->(0:Int)<=to_/\to_<((text.size:Nat):Int)) (
 bif (bif (decide (to_<((text.size:Nat):Int)))then(!decide ((at' (dH text) to_.toNat)=10))else false)then
 some (.next (IntKind.wrap .i64 (to_+1)))
 else
 some (.done (.brk to_)))
def bY (text:ByteArray):(Int × (List Source) × (List Link) × (List aD) × Int × Int × Int)->Option (bC (Int × (List Source) × (List Link) × (List aD) × Int × Int × Int) (Ex (Int × (List Source) × (List Link) × (List aD) × Int) (af × Int × Int))):=
 fun zz=>match zz with
 |(p0,p1,p2,p3,n,rank,from_)=>
 bif (decide (from_<((text.size:Nat):Int)))then
 Option.bind (aI (dV text) FUEL (from_)) fun o=>match o with
 | .ret v=>some v
 | .brk to_1=>
 bif (decide (to_1<((text.size:Nat):Int)))then
 (gY (⟨p0,p1,p2,p3⟩:af) rank (bD text from_.toNat to_1.toNat)).bind fun r_=>
 aX ((0:Int)<=from_/\from_<=to_1/\to_1<=((text.size:Nat):Int)) (
 bif (bif (decide (to_1=((text.size:Nat):Int)))then true else(decide (r_.2=0)))then
 some (.done (.ret ((⟨0,([]:List Source),([]:List Link),([]:List aD)⟩:af),n,3)))
 else
 some (.next (r_.1.ag,r_.1.aa,r_.1.ae,r_.1.ac,IntKind.wrap .i64 (n+1),r_.2,IntKind.wrap .i64 (to_1+1))))
 else
 bif (bif (decide (to_1=((text.size:Nat):Int)))then true else(decide (rank=0)))then
 some (.done (.ret ((⟨0,([]:List Source),([]:List Link),([]:List aD)⟩:af),n,3)))
 else
 some (.next (p0,p1,p2,p3,IntKind.wrap .i64 (n+1),rank,IntKind.wrap .i64 (to_1+1)))
 else
 some (.done (.brk (p0,p1,p2,p3,n)))
def kM (text:ByteArray):Option (af × Int × Int):=
 bif (decide (131072<((text.size:Nat):Int)))then
 some ((⟨0,([]:List Source),([]:List Link),([]:List aD)⟩:af),0,2)
 else
 Option.bind (aI (bY text) FUEL (0,([]:List Source),([]:List Link),([]:List aD),0,0,0)) fun o=>match o with
 | .ret v=>some v
 | .brk (p01,p11,p21,p31,n1)=>
 bif (decide (n1=0))then
 some ((⟨0,([]:List Source),([]:List Link),([]:List aD)⟩:af),0,3)
 else
 (fe (⟨p01,p11,p21,p31⟩:af)).bind fun r_1=>
 bif (!decide (r_1=0))then
 some ((⟨0,([]:List Source),([]:List Link),([]:List aD)⟩:af),n1,r_1)
 else
 some ((⟨p01,p11,p21,p31⟩:af),0,0)
def iC (a:List Source) (b:List Source):Int->Option (bC Int (Ex Unit Bool)):=
 fun i=>
 bif (decide (i<(a.length:Int)))then
 aX (((0:Int)<=i/\i<(a.length:Int))/\((0:Int)<=i/\i<(b.length:Int))) (
 bif (!((decide (((at' a i.toNat).bus)=((at' b i.toNat).bus))) && ((decide (((at' a i.toNat).kind)=((at' b i.toNat).kind))) && ((decide (((at' a i.toNat).power)=((at' b i.toNat).power))) && ((decide (((at' a i.toNat).bk)=((at' b i.toNat).bk))) && ((decide (((at' a i.toNat).ohm)=((at' b i.toNat).ohm))) && true))))))then
 some (.done (.ret false))
 else
 some (.next (IntKind.wrap .i64 (i+1))))
 else
 some (.done (.brk ()))
def jP (a:List Source) (b:List Source):Option Bool:=
 bif (!decide ((a.length:Int)=(b.length:Int)))then
 some false
 else
 Option.bind (aI (iC a b) FUEL (0)) fun o=>match o with
 | .ret v=>some v
 | .brk _=>
 some true
def jg (a:List au) (b:List au):Int->Option (bC Int (Ex Unit Bool)):=
 fun i=>
 bif (decide (i<(a.length:Int)))then
 aX (((0:Int)<=i/\i<(a.length:Int))/\((0:Int)<=i/\i<(b.length:Int))) (
 bif (!((decide (((at' a i.toNat).bp)=((at' b i.toNat).bp))) && ((decide (((at' a i.toNat).bj)=((at' b i.toNat).bj))) && true)))then
 some (.done (.ret false))
 else
 some (.next (IntKind.wrap .i64 (i+1))))
 else
 some (.done (.brk ()))
def kU (a:List au) (b:List au):Option Bool:=
 bif (!decide ((a.length:Int)=(b.length:Int)))then
 some false
 else
 Option.bind (aI (jg a b) FUEL (0)) fun o=>match o with
 | .ret v=>some v
 | .brk _=>
 some true
def lV (a:Link) (b:Link):Option Bool:=
 (bif gB [((bif (bif (bif (bif (decide (a.a=b.a))then(decide (a.b=b.b))else false)then(decide (a.kind=b.kind))else false)then(decide (a.most=b.most))else false)then(decide (a.ohm=b.ohm))else false),true)]then kU a.trip b.trip else some default).bind fun r_=>
 some (bif (bif (bif (bif (bif (decide (a.a=b.a))then(decide (a.b=b.b))else false)then(decide (a.kind=b.kind))else false)then(decide (a.most=b.most))else false)then(decide (a.ohm=b.ohm))else false)then r_ else false)
def je (a:List Link) (b:List Link):Int->Option (bC Int (Ex Unit Bool)):=
 fun i=>
 bif (decide (i<(a.length:Int)))then
 (lV (at' a i.toNat) (at' b i.toNat)).bind fun r_=>
 aX (((0:Int)<=i/\i<(a.length:Int))/\((0:Int)<=i/\i<(b.length:Int))) (
 bif (!r_)then
 some (.done (.ret false))
 else
 some (.next (IntKind.wrap .i64 (i+1))))
 else
 some (.done (.brk ()))
def kW (a:List Link) (b:List Link):Option Bool:=
 bif (!decide ((a.length:Int)=(b.length:Int)))then
 some false
 else
 Option.bind (aI (je a b) FUEL (0)) fun o=>match o with
 | .ret v=>some v
 | .brk _=>
 some true
def iX (a:List aD) (b:List aD):Int->Option (bC Int (Ex Unit Bool)):=
 fun i=>
 bif (decide (i<(a.length:Int)))then
 aX (((0:Int)<=i/\i<(a.length:Int))/\((0:Int)<=i/\i<(b.length:Int))) (
 bif (!((decide ((((at' a i.toNat).aw).e0)=(((at' b i.toNat).aw).e0))) && ((decide ((((at' a i.toNat).aw).e1)=(((at' b i.toNat).aw).e1))) && ((decide (((at' a i.toNat).power)=((at' b i.toNat).power))) && ((decide (((at' a i.toNat).bi)=((at' b i.toNat).bi))) && true)))))then
 some (.done (.ret false))
 else
 some (.next (IntKind.wrap .i64 (i+1))))
 else
 some (.done (.brk ()))
def kR (a:List aD) (b:List aD):Option Bool:=
 bif (!decide ((a.length:Int)=(b.length:Int)))then
 some false
 else
 Option.bind (aI (iX a b) FUEL (0)) fun o=>match o with
 | .ret v=>some v
 | .brk _=>
 some true
def ic (a:af) (b:af):Option Bool:=
 (bif gB [(decide (a.ag=b.ag),true)]then jP a.aa b.aa else some default).bind fun r_=>
 (bif gB [((bif (decide (a.ag=b.ag))then r_ else false),true)]then kW a.ae b.ae else some default).bind fun r_1=>
 (bif gB [((bif (bif (decide (a.ag=b.ag))then r_ else false)then r_1 else false),true)]then kR a.ac b.ac else some default).bind fun r_2=>
 some (bif (bif (bif (decide (a.ag=b.ag))then r_ else false)then r_1 else false)then r_2 else false)
def dvI:DV->Int
 | .int _ n=>n
 |_=>0
def fmtS (p:af) (i j:Nat):Int:=dvI (Source.cell (at' p.aa i) j)
def Xl (p:af) (i j:Nat):Int:=dvI (Link.cell (at' p.ae i) j)
def XM (p:af) (i:Nat):Nat:=(at' p.ae i).trip.length
def XQ (p:af) (i j:Nat):Int:=dvI (aD.cell (at' p.ac i) j)
def Xj (p:af) (i g j:Nat):Int:=dvI (au.cell (at' (at' p.ae i).trip g) j)
def ZT (p:af):List UInt8:=QC p.ag p.aa.length p.ae.length p.ac.length (fmtS p) (Xl p) (XQ p) (XM p) (Xj p)
def oU (p:af):Option (ByteArray × Int):=
 (fq p).bind fun c=>bif decide (c=0)then(bif fmtG p.ag p.aa.length p.ae.length p.ac.length (fmtS p) (Xl p) (XQ p) (XM p) (Xj p)then some (sb (ZT p),0)else none)else some (⟨#[]⟩,c)
def dL (n:Int):Option (List Bool):=
 aX (((0:Int)<=n)/\((1:Int)*n<=281474976710656)/\((n:Int)<=9223372036854775807)) (
 some (List.replicate n.toNat (false:Bool)))
def yQ (p:af):((List Bool) × Int)->Option (bC ((List Bool) × Int) (Ex (List Bool) (State × Int))):=
 fun zz=>match zz with
 |(s0,t50)=>
 bif (decide (t50<(p.ae.length:Int)))then
 aX ((0:Int)<=t50/\t50<(p.ae.length:Int)) (
 aX ((0:Int)<=t50/\t50<(s0.length:Int)) (
 some (.next (s0.set t50.toNat (decide (((at' p.ae t50.toNat).kind)=1)),IntKind.wrap .i64 (t50+1)))))
 else
 some (.done (.brk s0))
def tY (p:af):Option (State × Int):=
 (fq p).bind fun r_=>
 bif (!decide (r_=0))then
 some ((⟨([]:List Bool),([]:List Bool),([]:List Bool),([]:List Bool),([]:List Bool),([]:List Bool),([]:List Bool)⟩:State),r_)
 else
 (dL (p.ae.length:Int)).bind fun r_1=>
 (dL (p.ae.length:Int)).bind fun r_2=>
 (dL (p.ae.length:Int)).bind fun r_3=>
 (dL (p.aa.length:Int)).bind fun r_4=>
 (dL (p.aa.length:Int)).bind fun r_5=>
 (dL p.ag).bind fun r_6=>
 (dL p.ag).bind fun r_7=>
 Option.bind (aI (yQ p) FUEL (r_1,0)) fun o=>match o with
 | .ret v=>some v
 | .brk s01=>
 some ((⟨s01,r_2,r_3,r_4,r_5,r_6,r_7⟩:State),0)
def CQ (r_1:List ai) (t25:Int):((List Bool) × Int)->Option (bC ((List Bool) × Int) (Ex (List Bool) (bC ((List Bool) × Int) (Ex (List Bool) ((List Bool) × Int))))):=
 fun zz=>match zz with
 |(out2,t32)=>
 bif (decide (t32<(((at' r_1 t25.toNat).ag).length:Int)))then
 aX ((0:Int)<=t32/\t32<(((at' r_1 t25.toNat).ag).length:Int)) (
 aX ((0:Int)<=(at' ((at' r_1 t25.toNat).ag) t32.toNat)/\(at' ((at' r_1 t25.toNat).ag) t32.toNat)<(out2.length:Int)) (
 some (.next (out2.set ((at' ((at' r_1 t25.toNat).ag) t32.toNat).toNat) (decide (0<(((at' r_1 t25.toNat).aa).length:Int))),IntKind.wrap .i64 (t32+1)))))
 else
 some (.done (.brk out2))
def CB (r_1:List ai):((List Bool) × Int)->Option (bC ((List Bool) × Int) (Ex (List Bool) ((List Bool) × Int))):=
 fun zz=>match zz with
 |(out,t25)=>
 bif (decide (t25<(r_1.length:Int)))then
 aX ((0:Int)<=t25/\t25<(r_1.length:Int)) (
 Option.bind (aI (CQ r_1 t25) FUEL (out,0)) fun o=>match o with
 | .ret v=>some v
 | .brk out3=>
 some (.next (out3,IntKind.wrap .i64 (t25+1))))
 else
 some (.done (.brk out))
def zG (p:af) (s_:State):Option ((List Bool) × Int):=
 (dQ p s_).bind fun r_=>
 bif (!decide (r_=0))then
 some (([]:List Bool),r_)
 else
 aX (((0:Int)<=p.ag)/\((1:Int)*p.ag<=281474976710656)/\((p.ag:Int)<=9223372036854775807)) (
 (kX p s_).bind fun r_1=>
 Option.bind (aI (CB r_1) FUEL (List.replicate p.ag.toNat (false:Bool),0)) fun o=>match o with
 | .ret v=>some v
 | .brk out1=>
 some (out1,0))
def FC (p:af) (r_:(List Bool) × Int):((List aV) × Int)->Option (bC ((List aV) × Int) (Ex (List aV) ((List aV) × Int))):=
 fun zz=>match zz with
 |(out,t26)=>
 bif (decide (t26<(p.ac.length:Int)))then
 aX ((0:Int)<=t26/\t26<(p.ac.length:Int)) (
 aX (gB [(decide (0<=(((at' p.ac t26.toNat).aw).e0)),true)]=true->(0:Int)<=((at' p.ac t26.toNat).aw).e0/\((at' p.ac t26.toNat).aw).e0<(r_.1.length:Int)) (
 aX (gB [(decide (0<=(((at' p.ac t26.toNat).aw).e1)),true)]=true->(0:Int)<=((at' p.ac t26.toNat).aw).e1/\((at' p.ac t26.toNat).aw).e1<(r_.1.length:Int)) (
 aX (((out.length+[(⟨(bif (decide (0<=(((at' p.ac t26.toNat).aw).e0)))then(at' r_.1 ((((at' p.ac t26.toNat).aw).e0).toNat))else false),(bif (decide (0<=(((at' p.ac t26.toNat).aw).e1)))then(at' r_.1 ((((at' p.ac t26.toNat).aw).e1).toNat))else false)⟩:aV)].length)*2<=140737488355328)/\(out.length+[(⟨(bif (decide (0<=(((at' p.ac t26.toNat).aw).e0)))then(at' r_.1 ((((at' p.ac t26.toNat).aw).e0).toNat))else false),(bif (decide (0<=(((at' p.ac t26.toNat).aw).e1)))then(at' r_.1 ((((at' p.ac t26.toNat).aw).e1).toNat))else false)⟩:aV)].length<=4611686018427387904)) (
 some (.next (out++[(⟨(bif (decide (0<=(((at' p.ac t26.toNat).aw).e0)))then(at' r_.1 ((((at' p.ac t26.toNat).aw).e0).toNat))else false),(bif (decide (0<=(((at' p.ac t26.toNat).aw).e1)))then(at' r_.1 ((((at' p.ac t26.toNat).aw).e1).toNat))else false)⟩:aV)],IntKind.wrap .i64 (t26+1)))))))
 else
 some (.done (.brk out))
def Cj (p:af) (s_:State):Option ((List aV) × Int):=
 (zG p s_).bind fun r_=>
 bif (!decide (r_.2=0))then
 some (([]:List aV),r_.2)
 else
 Option.bind (aI (FC p r_) FUEL (([]:List aV),0)) fun o=>match o with
 | .ret v=>some v
 | .brk out1=>
 some (out1,0)
def vR (s_:List Bool) (s_nn:Bool):Option (List Bool):=
 bif (!s_nn)then
 some ([]:List Bool)
 else
 aX (((([]:List Bool).length+s_.length)*1<=140737488355328)/\(([]:List Bool).length+s_.length<=4611686018427387904)) (
 some (([]:List Bool)++s_))
def dW (s:List Bool):Option (List Bool):=vR s true
def wh (s_:State):Option State:=
 aX ((0:Int)<=0/\0<(7:Int)) (
 (dW s_.a_).bind fun r_=>
 aX ((0:Int)<=1/\1<(7:Int)) (
 (dW s_.bh).bind fun r_1=>
 aX ((0:Int)<=2/\2<(7:Int)) (
 (dW s_.aq).bind fun r_2=>
 aX ((0:Int)<=3/\3<(7:Int)) (
 (dW s_.on_).bind fun r_3=>
 aX ((0:Int)<=4/\4<(7:Int)) (
 (dW s_.am).bind fun r_4=>
 aX ((0:Int)<=5/\5<(7:Int)) (
 (dW s_.ba).bind fun r_5=>
 aX ((0:Int)<=6/\6<(7:Int)) (
 (dW s_.ap).bind fun r_6=>
 some (⟨r_,r_1,r_2,r_3,r_4,r_5,r_6⟩:State))))))))
def vZ (p:af) (s_:State) (x:Part) (is:Bool):Option (State × Int):=
 (dQ p s_).bind fun r_=>
 bif (!decide (r_=0))then
 some ((⟨([]:List Bool),([]:List Bool),([]:List Bool),([]:List Bool),([]:List Bool),([]:List Bool),([]:List Bool)⟩:State),r_)
 else
 (wh s_).bind fun r_1=>
 bif (fA x.kind 1)then
 (aT x.index 0 (IntKind.wrap .i64 ((r_1.ap.length:Int) - 1))).bind fun r_2=>
 bif (!r_2)then
 some ((⟨([]:List Bool),([]:List Bool),([]:List Bool),([]:List Bool),([]:List Bool),([]:List Bool),([]:List Bool)⟩:State),14)
 else
 aX ((0:Int)<=x.index/\x.index<(r_1.ap.length:Int)) (
 some ((⟨r_1.a_,r_1.bh,r_1.aq,r_1.on_,r_1.am,r_1.ba,r_1.ap.set x.index.toNat is⟩:State),0))
 else
 bif (fA x.kind 2)then
 (aT x.index 0 (IntKind.wrap .i64 ((r_1.am.length:Int) - 1))).bind fun r_3=>
 bif (!r_3)then
 some ((⟨([]:List Bool),([]:List Bool),([]:List Bool),([]:List Bool),([]:List Bool),([]:List Bool),([]:List Bool)⟩:State),14)
 else
 aX ((0:Int)<=x.index/\x.index<(r_1.am.length:Int)) (
 some ((⟨r_1.a_,r_1.bh,r_1.aq,r_1.on_,r_1.am.set x.index.toNat is,r_1.ba,r_1.ap⟩:State),0))
 else
 bif (fA x.kind 3)then
 (aT x.index 0 (IntKind.wrap .i64 ((r_1.aq.length:Int) - 1))).bind fun r_4=>
 bif (!r_4)then
 some ((⟨([]:List Bool),([]:List Bool),([]:List Bool),([]:List Bool),([]:List Bool),([]:List Bool),([]:List Bool)⟩:State),14)
 else
 aX ((0:Int)<=x.index/\x.index<(r_1.aq.length:Int)) (
 some ((⟨r_1.a_,r_1.bh,r_1.aq.set x.index.toNat is,r_1.on_,r_1.am,r_1.ba,r_1.ap⟩:State),0))
 else
 (aT x.index 0 (-1)).bind fun r_5=>
 bif (!r_5)then
 some ((⟨([]:List Bool),([]:List Bool),([]:List Bool),([]:List Bool),([]:List Bool),([]:List Bool),([]:List Bool)⟩:State),14)
 else
 none
def qM (p:af) (s_:State) (x:Part):Option (State × Int):=
 (vZ p s_ x true).bind fun r_=>
 some (r_.1,r_.2)
def mI (p:af) (s_:State):Option (Int × (List Source) × (List Link) × (List aD) × State):=
 some (p.ag,p.aa,p.ae,p.ac,s_)
def pX (x12:List Link) (state:State):((List (Int × Int)) × Int)->Option (bC ((List (Int × Int)) × Int) (Ex (List (Int × Int)) aM)):=
 fun zz=>match zz with
 |(o0,t9)=>
 bif (decide (t9<(x12.length:Int)))then
 aX ((0:Int)<=t9/\t9<(x12.length:Int)) (
 bif (bif (bif (bif (at' state.a_ t9.toNat)then(!(at' state.aq t9.toNat))else false)then(!(at' state.ap (((at' x12 t9.toNat).a).toNat)))else false)then(!(at' state.ap (((at' x12 t9.toNat).b).toNat)))else false)then
 (j5 ((at' x12 t9.toNat).a) ((at' x12 t9.toNat).b) ((at' x12 t9.toNat).kind) ((at' x12 t9.toNat).most) ((at' x12 t9.toNat).ohm) ((at' x12 t9.toNat).trip) (⟨o0⟩:aM)).bind fun r_=>
 aX (((0:Int)<=t9/\t9<(state.a_.length:Int))/\(gB [(at' state.a_ t9.toNat,true)]=true->(0:Int)<=t9/\t9<(state.aq.length:Int))/\(gB [((bif (at' state.a_ t9.toNat)then(!(at' state.aq t9.toNat))else false),true)]=true->(0:Int)<=(at' x12 t9.toNat).a/\(at' x12 t9.toNat).a<(state.ap.length:Int))/\(gB [((bif (bif (at' state.a_ t9.toNat)then(!(at' state.aq t9.toNat))else false)then(!(at' state.ap (((at' x12 t9.toNat).a).toNat)))else false),true)]=true->(0:Int)<=(at' x12 t9.toNat).b/\(at' x12 t9.toNat).b<(state.ap.length:Int))) (
 some (.next (r_.head,IntKind.wrap .i64 (t9+1))))
 else
 aX (((0:Int)<=t9/\t9<(state.a_.length:Int))/\(gB [(at' state.a_ t9.toNat,true)]=true->(0:Int)<=t9/\t9<(state.aq.length:Int))/\(gB [((bif (at' state.a_ t9.toNat)then(!(at' state.aq t9.toNat))else false),true)]=true->(0:Int)<=(at' x12 t9.toNat).a/\(at' x12 t9.toNat).a<(state.ap.length:Int))/\(gB [((bif (bif (at' state.a_ t9.toNat)then(!(at' state.aq t9.toNat))else false)then(!(at' state.ap (((at' x12 t9.toNat).a).toNat)))else false),true)]=true->(0:Int)<=(at' x12 t9.toNat).b/\(at' x12 t9.toNat).b<(state.ap.length:Int))) (
 some (.next (o0,IntKind.wrap .i64 (t9+1)))))
 else
 some (.done (.brk o0))
def lK (x1:Int) (x11:List Source) (x12:List Link) (x13:List aD) (state:State) (o_:aM):Option aM:=
 Option.bind (aI (pX x12 state) FUEL (o_.head,0)) fun o=>match o with
 | .ret v=>some v
 | .brk o01=>
 some (⟨o01⟩:aM)
def uG (p:af) (s_:State) (r_1:aM):((List ai) × (List (Int × Int)) × Int)->Option (bC ((List ai) × (List (Int × Int)) × Int) (Ex ((List ai) × (List (Int × Int))) (List ai))):=
 fun zz=>match zz with
 |(out,at_,t32)=>
 bif (decide (t32<p.ag))then
 aX ((0:Int)<=t32/\t32<(s_.ap.length:Int)) (
 bif (at' s_.ap t32.toNat)then
 some (.next (out,at_,IntKind.wrap .i64 (t32+1)))
 else
 (dD r_1 t32).bind fun r_2=>
 bif (!((bg fA r_2 at_).isSome))then
 aX (((out.length+[(⟨([]:List Int),([]:List Int)⟩:ai)].length)*48<=140737488355328)/\(out.length+[(⟨([]:List Int),([]:List Int)⟩:ai)].length<=4611686018427387904)) (
 aX (((0:Int)<=((bg fA r_2 (aG fA r_2 (out.length:Int) at_)).getD 0)/\((bg fA r_2 (aG fA r_2 (out.length:Int) at_)).getD 0)<((out++[(⟨([]:List Int),([]:List Int)⟩:ai)]).length:Int))/\((((at' (out++[(⟨([]:List Int),([]:List Int)⟩:ai)]) (((bg fA r_2 (aG fA r_2 (out.length:Int) at_)).getD 0).toNat)).ag).length+[t32].length)*8<=140737488355328)/\(((at' (out++[(⟨([]:List Int),([]:List Int)⟩:ai)]) (((bg fA r_2 (aG fA r_2 (out.length:Int) at_)).getD 0).toNat)).ag).length+[t32].length<=4611686018427387904)) (
 some (.next ((out++[(⟨([]:List Int),([]:List Int)⟩:ai)]).set (((bg fA r_2 (aG fA r_2 (out.length:Int) at_)).getD 0).toNat) (⟨((at' (out++[(⟨([]:List Int),([]:List Int)⟩:ai)]) (((bg fA r_2 (aG fA r_2 (out.length:Int) at_)).getD 0).toNat)).ag)++[t32],(at' (out++[(⟨([]:List Int),([]:List Int)⟩:ai)]) (((bg fA r_2 (aG fA r_2 (out.length:Int) at_)).getD 0).toNat)).aa⟩:ai),aG fA r_2 (out.length:Int) at_,IntKind.wrap .i64 (t32+1)))))
 else
 aX (((0:Int)<=((bg fA r_2 at_).getD 0)/\((bg fA r_2 at_).getD 0)<(out.length:Int))/\((((at' out (((bg fA r_2 at_).getD 0).toNat)).ag).length+[t32].length)*8<=140737488355328)/\(((at' out (((bg fA r_2 at_).getD 0).toNat)).ag).length+[t32].length<=4611686018427387904)) (
 some (.next (out.set (((bg fA r_2 at_).getD 0).toNat) (⟨((at' out (((bg fA r_2 at_).getD 0).toNat)).ag)++[t32],(at' out (((bg fA r_2 at_).getD 0).toNat)).aa⟩:ai),at_,IntKind.wrap .i64 (t32+1)))))
 else
 some (.done (.brk (out,at_)))
def uj (p:af) (s_:State) (r_1:aM) (at_1:List (Int × Int)):((List ai) × Int)->Option (bC ((List ai) × Int) (Ex (List ai) (List ai))):=
 fun zz=>match zz with
 |(out2,t78)=>
 bif (decide (t78<(p.aa.length:Int)))then
 aX ((0:Int)<=t78/\t78<(p.aa.length:Int)) (
 aX (((0:Int)<=t78/\t78<(s_.on_.length:Int))/\(gB [(at' s_.on_ t78.toNat,true)]=true->(0:Int)<=t78/\t78<(s_.am.length:Int))/\(gB [((bif (at' s_.on_ t78.toNat)then(!(at' s_.am t78.toNat))else false),true)]=true->(0:Int)<=(at' p.aa t78.toNat).bus/\(at' p.aa t78.toNat).bus<(s_.ap.length:Int))) (
 bif (bif (bif (at' s_.on_ t78.toNat)then(!(at' s_.am t78.toNat))else false)then(!(at' s_.ap (((at' p.aa t78.toNat).bus).toNat)))else false)then
 (dD r_1 ((at' p.aa t78.toNat).bus)).bind fun r_3=>
 aX (((0:Int)<=((bg fA r_3 at_1).getD 0)/\((bg fA r_3 at_1).getD 0)<(out2.length:Int))/\((((at' out2 (((bg fA r_3 at_1).getD 0).toNat)).aa).length+[t78].length)*8<=140737488355328)/\(((at' out2 (((bg fA r_3 at_1).getD 0).toNat)).aa).length+[t78].length<=4611686018427387904)) (
 some (.next (out2.set (((bg fA r_3 at_1).getD 0).toNat) (⟨(at' out2 (((bg fA r_3 at_1).getD 0).toNat)).ag,((at' out2 (((bg fA r_3 at_1).getD 0).toNat)).aa)++[t78]⟩:ai),IntKind.wrap .i64 (t78+1))))
 else
 some (.next (out2,IntKind.wrap .i64 (t78+1)))))
 else
 some (.done (.brk out2))
def lg (p:af) (s_:State):Option (List ai):=
 (mI p s_).bind fun r_=>
 (lK r_.1 r_.2.1 r_.2.2.1 r_.2.2.2.1 s_ (⟨([]:(List (Int × Int)))⟩:aM)).bind fun r_1=>
 Option.bind (aI (uG p s_ r_1) FUEL (([]:List ai),([]:(List (Int × Int))),0)) fun o=>match o with
 | .ret v=>some v
 | .brk (out1,at_1)=>
 Option.bind (aI (uj p s_ r_1 at_1) FUEL (out1,0)) fun o=>match o with
 | .ret v=>some v
 | .brk out3=>
 some out3
def pG (p:af) (s_:State):Option ((List ai) × Int):=
 (dQ p s_).bind fun r_=>
 bif (!decide (r_=0))then
 some (([]:List ai),r_)
 else
 (lg p s_).bind fun r_1=>
 some (r_1,0)
def yg (r_1:List ai) (t25:Int):((List Bool) × Int)->Option (bC ((List Bool) × Int) (Ex (List Bool) (bC ((List Bool) × Int) (Ex (List Bool) ((List Bool) × Int))))):=
 fun zz=>match zz with
 |(out2,t32)=>
 bif (decide (t32<(((at' r_1 t25.toNat).ag).length:Int)))then
 aX ((0:Int)<=t32/\t32<(((at' r_1 t25.toNat).ag).length:Int)) (
 aX ((0:Int)<=(at' ((at' r_1 t25.toNat).ag) t32.toNat)/\(at' ((at' r_1 t25.toNat).ag) t32.toNat)<(out2.length:Int)) (
 some (.next (out2.set ((at' ((at' r_1 t25.toNat).ag) t32.toNat).toNat) (decide (0<(((at' r_1 t25.toNat).aa).length:Int))),IntKind.wrap .i64 (t32+1)))))
 else
 some (.done (.brk out2))
def y9 (r_1:List ai):((List Bool) × Int)->Option (bC ((List Bool) × Int) (Ex (List Bool) ((List Bool) × Int))):=
 fun zz=>match zz with
 |(out,t25)=>
 bif (decide (t25<(r_1.length:Int)))then
 aX ((0:Int)<=t25/\t25<(r_1.length:Int)) (
 Option.bind (aI (yg r_1 t25) FUEL (out,0)) fun o=>match o with
 | .ret v=>some v
 | .brk out3=>
 some (.next (out3,IntKind.wrap .i64 (t25+1))))
 else
 some (.done (.brk out))
def tO (p:af) (s_:State):Option ((List Bool) × Int):=
 (dQ p s_).bind fun r_=>
 bif (!decide (r_=0))then
 some (([]:List Bool),r_)
 else
 aX (((0:Int)<=p.ag)/\((1:Int)*p.ag<=281474976710656)/\((p.ag:Int)<=9223372036854775807)) (
 (lg p s_).bind fun r_1=>
 Option.bind (aI (y9 r_1) FUEL (List.replicate p.ag.toNat (false:Bool),0)) fun o=>match o with
 | .ret v=>some v
 | .brk out1=>
 some (out1,0))
def zA (p:af) (r_:(List Bool) × Int):((List aV) × Int)->Option (bC ((List aV) × Int) (Ex (List aV) ((List aV) × Int))):=
 fun zz=>match zz with
 |(out,t26)=>
 bif (decide (t26<(p.ac.length:Int)))then
 aX ((0:Int)<=t26/\t26<(p.ac.length:Int)) (
 aX (gB [(decide (0<=(((at' p.ac t26.toNat).aw).e0)),true)]=true->(0:Int)<=((at' p.ac t26.toNat).aw).e0/\((at' p.ac t26.toNat).aw).e0<(r_.1.length:Int)) (
 aX (gB [(decide (0<=(((at' p.ac t26.toNat).aw).e1)),true)]=true->(0:Int)<=((at' p.ac t26.toNat).aw).e1/\((at' p.ac t26.toNat).aw).e1<(r_.1.length:Int)) (
 aX (((out.length+[(⟨(bif (decide (0<=(((at' p.ac t26.toNat).aw).e0)))then(at' r_.1 ((((at' p.ac t26.toNat).aw).e0).toNat))else false),(bif (decide (0<=(((at' p.ac t26.toNat).aw).e1)))then(at' r_.1 ((((at' p.ac t26.toNat).aw).e1).toNat))else false)⟩:aV)].length)*2<=140737488355328)/\(out.length+[(⟨(bif (decide (0<=(((at' p.ac t26.toNat).aw).e0)))then(at' r_.1 ((((at' p.ac t26.toNat).aw).e0).toNat))else false),(bif (decide (0<=(((at' p.ac t26.toNat).aw).e1)))then(at' r_.1 ((((at' p.ac t26.toNat).aw).e1).toNat))else false)⟩:aV)].length<=4611686018427387904)) (
 some (.next (out++[(⟨(bif (decide (0<=(((at' p.ac t26.toNat).aw).e0)))then(at' r_.1 ((((at' p.ac t26.toNat).aw).e0).toNat))else false),(bif (decide (0<=(((at' p.ac t26.toNat).aw).e1)))then(at' r_.1 ((((at' p.ac t26.toNat).aw).e1).toNat))else false)⟩:aV)],IntKind.wrap .i64 (t26+1)))))))
 else
 some (.done (.brk out))
def vE (p:af) (s_:State):Option ((List aV) × Int):=
 (tO p s_).bind fun r_=>
 bif (!decide (r_.2=0))then
 some (([]:List aV),r_.2)
 else
 Option.bind (aI (zA p r_) FUEL (([]:List aV),0)) fun o=>match o with
 | .ret v=>some v
 | .brk out1=>
 some (out1,0)
def qL:Option Bool:=
 (kV).bind fun r_=>
 (tY r_).bind fun r_1=>
 bif (bif (bif (bif (!decide (r_1.2=0))then true else(!decide ((r_1.1.on_.length:Int)=2)))then true else(!decide ((r_1.1.a_.length:Int)=2)))then true else(!decide ((r_1.1.ap.length:Int)=3)))then
 some false
 else
 (pG r_ (⟨[true,false],r_1.1.bh,r_1.1.aq,[true,true],r_1.1.am,r_1.1.ba,r_1.1.ap⟩:State)).bind fun r_2=>
 (vE r_ (⟨[true,false],r_1.1.bh,r_1.1.aq,[true,true],r_1.1.am,r_1.1.ba,r_1.1.ap⟩:State)).bind fun r_3=>
 bif (bif (bif (bif (!decide (r_2.2=0))then true else(!decide (r_3.2=0)))then true else(!decide ((r_3.1.length:Int)=1)))then true else(!((at' r_3.1 0).e0)))then
 aX (gB [((bif (bif (!decide (r_2.2=0))then true else(!decide (r_3.2=0)))then true else(!decide ((r_3.1.length:Int)=1))),false)]=true->(0:Int)<=0/\0<(r_3.1.length:Int)) (
 some false)
 else
 (dJ r_2.1 [(⟨[0,1],[0]⟩:ai),(⟨[2],[1]⟩:ai)]).bind fun r_4=>
 aX (gB [((bif (bif (!decide (r_2.2=0))then true else(!decide (r_3.2=0)))then true else(!decide ((r_3.1.length:Int)=1))),false)]=true->(0:Int)<=0/\0<(r_3.1.length:Int)) (
 bif (!r_4)then
 some false
 else
 aX ((0:Int)<=1/\1<([true,false].length:Int)) (
 (gW r_ (⟨[true,false].set 1 true,r_1.1.bh,r_1.1.aq,[true,true],r_1.1.am,r_1.1.ba,r_1.1.ap⟩:State)).bind fun r_5=>
 (qM r_ (⟨[true,false].set 1 true,r_1.1.bh,r_1.1.aq,[true,true],r_1.1.am,r_1.1.ba,r_1.1.ap⟩:State) (⟨3,0⟩:Part)).bind fun r_6=>
 (gU r_ r_6.1).bind fun r_7=>
 bif (bif (bif (!decide (r_5.2=0))then true else(!decide (r_6.2=0)))then true else(!decide (r_7.2=0)))then
 some false
 else
 (fD r_5.1 [(⟨0,1⟩:ah)]).bind fun r_8=>
 bif (!r_8)then
 some false
 else
 (dJ r_7.1 [(⟨[0],[0]⟩:ai),(⟨[1,2],[1]⟩:ai)]).bind fun r_9=>
 bif (!r_9)then
 some false
 else
 (qM r_ (⟨[true,false].set 1 true,r_1.1.bh,r_1.1.aq,[true,true],r_1.1.am,r_1.1.ba,r_1.1.ap⟩:State) (⟨1,1⟩:Part)).bind fun r_10=>
 (Cj r_ r_10.1).bind fun r_11=>
 (oU r_).bind fun r_12=>
 aX (gB [((bif (bif (bif (decide (r_10.2=0))then(decide (r_11.2=0))else false)then(decide (r_12.2=0))else false)then(decide ((r_11.1.length:Int)=1))else false),true)]=true->(0:Int)<=0/\0<(r_11.1.length:Int)) (
 some (bif (bif (bif (bif (bif (decide (r_10.2=0))then(decide (r_11.2=0))else false)then(decide (r_12.2=0))else false)then(decide ((r_11.1.length:Int)=1))else false)then(!((at' r_11.1 0).e0))else false)then((r_12.1:ByteArray).toList==(⟨#[112,108,97,110,116,32,51,10,115,111,117,114,99,101,32,48,32,103,114,105,100,32,53,48,48,32,48,32,50,48,10,115,111,117,114,99,101,32,50,32,103,101,110,101,114,97,116,111,114,32,51,48,48,32,48,32,52,48,10,108,105,110,107,32,48,32,49,32,98,114,101,97,107,101,114,32,52,48,48,32,49,48,32,49,48,48,48,58,52,48,48,32,53,48,48,48,58,53,48,10,108,105,110,107,32,49,32,50,32,98,114,101,97,107,101,114,32,52,48,48,32,49,48,10,114,97,99,107,32,49,32,45,49,32,49,48,48,32,49,10]⟩:ByteArray).toList)else false))))
def pF:Option Unit:=
 some ()
abbrev bQ:List Link:=[(⟨0,1,3,400,10,[(⟨1000,400⟩:au),(⟨5000,50⟩:au)]⟩:Link),(⟨1,2,3,400,10,([]:List au)⟩:Link)]
def Eb (v_:Int):((List Source) × Int)->Option (bC ((List Source) × Int) (Ex (List Source) af)):=
 fun zz=>match zz with
 |(o1,i)=>
 bif (bif (decide (i<v_))then(decide (i<60))else false)then
 aX (((0:Int)<=0/\0<(o1.length:Int))/\((o1.length+[at' o1 0].length)*40<=140737488355328)/\(o1.length+[at' o1 0].length<=4611686018427387904)) (
 some (.next (o1++[at' o1 0],IntKind.wrap .i64 (i+1))))
 else
 some (.done (.brk o1))
def Eg (v_:Int):((List Link) × Int)->Option (bC ((List Link) × Int) (Ex (List Link) af)):=
 fun zz=>match zz with
 |(o2,i1)=>
 bif (bif (decide (i1<v_))then(decide (i1<60))else false)then
 aX (((0:Int)<=0/\0<(o2.length:Int))/\((o2.length+[at' o2 0].length)*64<=140737488355328)/\(o2.length+[at' o2 0].length<=4611686018427387904)) (
 some (.next (o2++[at' o2 0],IntKind.wrap .i64 (i1+1))))
 else
 some (.done (.brk o2))
def Ew (v_:Int):((List aD) × Int)->Option (bC ((List aD) × Int) (Ex (List aD) af)):=
 fun zz=>match zz with
 |(o3,i2)=>
 bif (bif (decide (i2<v_))then(decide (i2<60))else false)then
 aX (((0:Int)<=0/\0<(o3.length:Int))/\((o3.length+[(⟨(at' o3 0).aw,(at' o3 0).power,(at' o3 0).bi⟩:aD)].length)*32<=140737488355328)/\(o3.length+[(⟨(at' o3 0).aw,(at' o3 0).power,(at' o3 0).bi⟩:aD)].length<=4611686018427387904)) (
 some (.next (o3++[(⟨(at' o3 0).aw,(at' o3 0).power,(at' o3 0).bi⟩:aD)],IntKind.wrap .i64 (i2+1))))
 else
 some (.done (.brk o3))
def Dv (v_:Int):((List Link) × Int)->Option (bC ((List Link) × Int) (Ex (List Link) af)):=
 fun zz=>match zz with
 |(o22,i3)=>
 bif (bif (decide (i3<v_))then(decide (i3<60))else false)then
 aX ((0:Int)<=1/\1<(o22.length:Int)) (
 aX (((((at' o22 1).trip).length+[(⟨IntKind.wrap .i64 (i3+1),IntKind.wrap .i64 ((100:Int) - i3)⟩:au)].length)*16<=140737488355328)/\(((at' o22 1).trip).length+[(⟨IntKind.wrap .i64 (i3+1),IntKind.wrap .i64 ((100:Int) - i3)⟩:au)].length<=4611686018427387904)/\((0:Int)<=1/\1<(o22.length:Int))) (
 some (.next (o22.set 1 (⟨(at' o22 1).a,(at' o22 1).b,(at' o22 1).kind,(at' o22 1).most,(at' o22 1).ohm,((at' o22 1).trip)++[(⟨IntKind.wrap .i64 (i3+1),IntKind.wrap .i64 ((100:Int) - i3)⟩:au)]⟩:Link),IntKind.wrap .i64 (i3+1)))))
 else
 some (.done (.brk o22))
def EF (n:Int) (v_:Int):((List Source) × (List Link) × (List aD) × Int)->Option (bC ((List Source) × (List Link) × (List aD) × Int) (Ex ((List Source) × (List Link) × (List aD)) af)):=
 fun zz=>match zz with
 |(o12,o24,o32,i4)=>
 bif (decide (i4<n))then
 aX (3≠(0:Int)) (
 bif (decide ((Int.tmod v_ 3)=0))then
 aX (((0:Int)<=0/\0<(o12.length:Int))/\((o12.length+[at' o12 0].length)*40<=140737488355328)/\(o12.length+[at' o12 0].length<=4611686018427387904)) (
 some (.next (o12++[at' o12 0],o24,o32,IntKind.wrap .i64 (i4+1))))
 else
 bif (decide ((Int.tmod v_ 3)=1))then
 aX (((0:Int)<=0/\0<(o24.length:Int))/\((o24.length+[at' o24 0].length)*64<=140737488355328)/\(o24.length+[at' o24 0].length<=4611686018427387904)) (
 some (.next (o12,o24++[at' o24 0],o32,IntKind.wrap .i64 (i4+1))))
 else
 aX (((0:Int)<=0/\0<(o32.length:Int))/\((o32.length+[(⟨(at' o32 0).aw,(at' o32 0).power,(at' o32 0).bi⟩:aD)].length)*32<=140737488355328)/\(o32.length+[(⟨(at' o32 0).aw,(at' o32 0).power,(at' o32 0).bi⟩:aD)].length<=4611686018427387904)) (
 some (.next (o12,o24,o32++[(⟨(at' o32 0).aw,(at' o32 0).power,(at' o32 0).bi⟩:aD)],IntKind.wrap .i64 (i4+1)))))
 else
 some (.done (.brk (o12,o24,o32)))
def Cg (n:Int) (v_:Int) (plant:af):Option af:=
 bif (decide (n=0))then
 some (⟨v_,plant.aa,bQ,plant.ac⟩:af)
 else
 bif (decide (n=1))then
 aX ((0:Int)<=1/\1<(plant.aa.length:Int)) (
 some (⟨plant.ag,plant.aa.set 1 (⟨v_,(at' plant.aa 1).kind,(at' plant.aa 1).power,(at' plant.aa 1).bk,(at' plant.aa 1).ohm⟩:Source),bQ,plant.ac⟩:af))
 else
 bif (decide (n=2))then
 aX ((0:Int)<=1/\1<(plant.aa.length:Int)) (
 some (⟨plant.ag,plant.aa.set 1 (⟨(at' plant.aa 1).bus,v_,(at' plant.aa 1).power,(at' plant.aa 1).bk,(at' plant.aa 1).ohm⟩:Source),bQ,plant.ac⟩:af))
 else
 bif (decide (n=3))then
 aX ((0:Int)<=1/\1<(plant.aa.length:Int)) (
 some (⟨plant.ag,plant.aa.set 1 (⟨(at' plant.aa 1).bus,(at' plant.aa 1).kind,v_,(at' plant.aa 1).bk,(at' plant.aa 1).ohm⟩:Source),bQ,plant.ac⟩:af))
 else
 bif (decide (n=4))then
 aX ((0:Int)<=1/\1<(plant.aa.length:Int)) (
 some (⟨plant.ag,plant.aa.set 1 (⟨(at' plant.aa 1).bus,(at' plant.aa 1).kind,(at' plant.aa 1).power,v_,(at' plant.aa 1).ohm⟩:Source),bQ,plant.ac⟩:af))
 else
 bif (decide (n=5))then
 aX ((0:Int)<=1/\1<(plant.aa.length:Int)) (
 some (⟨plant.ag,plant.aa.set 1 (⟨(at' plant.aa 1).bus,(at' plant.aa 1).kind,(at' plant.aa 1).power,(at' plant.aa 1).bk,v_⟩:Source),bQ,plant.ac⟩:af))
 else
 bif (decide (n=6))then
 aX ((0:Int)<=1/\1<(bQ.length:Int)) (
 some (⟨plant.ag,plant.aa,[(⟨0,1,3,400,10,[(⟨1000,400⟩:au),(⟨5000,50⟩:au)]⟩:Link),(⟨v_,2,3,400,10,([]:List au)⟩:Link)],plant.ac⟩:af))
 else
 bif (decide (n=7))then
 aX ((0:Int)<=1/\1<(bQ.length:Int)) (
 some (⟨plant.ag,plant.aa,[(⟨0,1,3,400,10,[(⟨1000,400⟩:au),(⟨5000,50⟩:au)]⟩:Link),(⟨1,v_,3,400,10,([]:List au)⟩:Link)],plant.ac⟩:af))
 else
 bif (decide (n=8))then
 aX ((0:Int)<=1/\1<(bQ.length:Int)) (
 some (⟨plant.ag,plant.aa,[(⟨0,1,3,400,10,[(⟨1000,400⟩:au),(⟨5000,50⟩:au)]⟩:Link),(⟨1,2,v_,400,10,([]:List au)⟩:Link)],plant.ac⟩:af))
 else
 bif (decide (n=9))then
 aX ((0:Int)<=0/\0<(bQ.length:Int)) (
 some (⟨plant.ag,plant.aa,[(⟨0,1,v_,400,10,[(⟨1000,400⟩:au),(⟨5000,50⟩:au)]⟩:Link),(⟨1,2,3,400,10,([]:List au)⟩:Link)],plant.ac⟩:af))
 else
 bif (decide (n=10))then
 aX ((0:Int)<=1/\1<(bQ.length:Int)) (
 some (⟨plant.ag,plant.aa,[(⟨0,1,3,400,10,[(⟨1000,400⟩:au),(⟨5000,50⟩:au)]⟩:Link),(⟨1,2,3,v_,10,([]:List au)⟩:Link)],plant.ac⟩:af))
 else
 bif (decide (n=11))then
 aX ((0:Int)<=1/\1<(bQ.length:Int)) (
 some (⟨plant.ag,plant.aa,[(⟨0,1,3,400,10,[(⟨1000,400⟩:au),(⟨5000,50⟩:au)]⟩:Link),(⟨1,2,3,400,v_,([]:List au)⟩:Link)],plant.ac⟩:af))
 else
 bif (decide (n=12))then
 aX ((0:Int)<=0/\0<([(⟨1000,400⟩:au),(⟨5000,50⟩:au)].length:Int)) (
 some (⟨plant.ag,plant.aa,[(⟨0,1,3,400,10,[(⟨1000,400⟩:au),(⟨5000,50⟩:au)].set 0 (⟨v_,(at' [(⟨1000,400⟩:au),(⟨5000,50⟩:au)] 0).bj⟩:au)⟩:Link),(⟨1,2,3,400,10,([]:List au)⟩:Link)],plant.ac⟩:af))
 else
 bif (decide (n=13))then
 aX ((0:Int)<=1/\1<([(⟨1000,400⟩:au),(⟨5000,50⟩:au)].length:Int)) (
 some (⟨plant.ag,plant.aa,[(⟨0,1,3,400,10,[(⟨1000,400⟩:au),(⟨5000,50⟩:au)].set 1 (⟨v_,(at' [(⟨1000,400⟩:au),(⟨5000,50⟩:au)] 1).bj⟩:au)⟩:Link),(⟨1,2,3,400,10,([]:List au)⟩:Link)],plant.ac⟩:af))
 else
 bif (decide (n=14))then
 aX ((0:Int)<=0/\0<([(⟨1000,400⟩:au),(⟨5000,50⟩:au)].length:Int)) (
 some (⟨plant.ag,plant.aa,[(⟨0,1,3,400,10,[(⟨1000,400⟩:au),(⟨5000,50⟩:au)].set 0 (⟨(at' [(⟨1000,400⟩:au),(⟨5000,50⟩:au)] 0).bp,v_⟩:au)⟩:Link),(⟨1,2,3,400,10,([]:List au)⟩:Link)],plant.ac⟩:af))
 else
 bif (decide (n=15))then
 aX ((0:Int)<=1/\1<([(⟨1000,400⟩:au),(⟨5000,50⟩:au)].length:Int)) (
 some (⟨plant.ag,plant.aa,[(⟨0,1,3,400,10,[(⟨1000,400⟩:au),(⟨5000,50⟩:au)].set 1 (⟨(at' [(⟨1000,400⟩:au),(⟨5000,50⟩:au)] 1).bp,v_⟩:au)⟩:Link),(⟨1,2,3,400,10,([]:List au)⟩:Link)],plant.ac⟩:af))
 else
 bif (decide (n=16))then
 aX ((0:Int)<=0/\0<(plant.ac.length:Int)) (
 some (⟨plant.ag,plant.aa,bQ,plant.ac.set 0 (⟨(⟨v_,((at' plant.ac 0).aw).e1⟩:ah),(at' plant.ac 0).power,(at' plant.ac 0).bi⟩:aD)⟩:af))
 else
 bif (decide (n=17))then
 aX ((0:Int)<=0/\0<(plant.ac.length:Int)) (
 some (⟨plant.ag,plant.aa,bQ,plant.ac.set 0 (⟨(⟨((at' plant.ac 0).aw).e0,v_⟩:ah),(at' plant.ac 0).power,(at' plant.ac 0).bi⟩:aD)⟩:af))
 else
 bif (decide (n=18))then
 aX ((0:Int)<=0/\0<(plant.ac.length:Int)) (
 some (⟨plant.ag,plant.aa,bQ,plant.ac.set 0 (⟨(at' plant.ac 0).aw,v_,(at' plant.ac 0).bi⟩:aD)⟩:af))
 else
 bif (decide (n=19))then
 aX ((0:Int)<=0/\0<(plant.ac.length:Int)) (
 some (⟨plant.ag,plant.aa,bQ,plant.ac.set 0 (⟨(at' plant.ac 0).aw,(at' plant.ac 0).power,v_⟩:aD)⟩:af))
 else
 bif (decide (n=20))then
 aX ((0:Int)<=0/\0<(plant.ac.length:Int)) (
 aX ((0:Int)<=0/\0<((plant.ac.set 0 (⟨(⟨((at' plant.ac 0).aw).e0,2⟩:ah),(at' plant.ac 0).power,(at' plant.ac 0).bi⟩:aD)).length:Int)) (
 some (⟨plant.ag,plant.aa,bQ,(plant.ac.set 0 (⟨(⟨((at' plant.ac 0).aw).e0,2⟩:ah),(at' plant.ac 0).power,(at' plant.ac 0).bi⟩:aD)).set 0 (⟨(at' (plant.ac.set 0 (⟨(⟨((at' plant.ac 0).aw).e0,2⟩:ah),(at' plant.ac 0).power,(at' plant.ac 0).bi⟩:aD)) 0).aw,(at' (plant.ac.set 0 (⟨(⟨((at' plant.ac 0).aw).e0,2⟩:ah),(at' plant.ac 0).power,(at' plant.ac 0).bi⟩:aD)) 0).power,v_⟩:aD)⟩:af)))
 else
 bif (decide (n=21))then
 Option.bind (aI (Eb v_) FUEL (plant.aa,0)) fun o=>match o with
 | .ret v=>some v
 | .brk o11=>
 some (⟨plant.ag,o11,bQ,plant.ac⟩:af)
 else
 bif (decide (n=22))then
 Option.bind (aI (Eg v_) FUEL (bQ,0)) fun o=>match o with
 | .ret v=>some v
 | .brk o21=>
 some (⟨plant.ag,plant.aa,o21,plant.ac⟩:af)
 else
 bif (decide (n=23))then
 Option.bind (aI (Ew v_) FUEL (plant.ac,0)) fun o=>match o with
 | .ret v=>some v
 | .brk o31=>
 some (⟨plant.ag,plant.aa,bQ,o31⟩:af)
 else
 bif (decide (n=24))then
 aX ((0:Int)<=1/\1<(bQ.length:Int)) (
 Option.bind (aI (Dv v_) FUEL (bQ,0)) fun o=>match o with
 | .ret v=>some v
 | .brk o23=>
 some (⟨plant.ag,plant.aa,o23,plant.ac⟩:af))
 else
 Option.bind (aI (EF n v_) FUEL (plant.aa,bQ,plant.ac,0)) fun o=>match o with
 | .ret v=>some v
 | .brk (o13,o25,o33)=>
 some (⟨plant.ag,o13,o25,o33⟩:af)
def uM (n:Int):Int->Option (bC Int (Ex Unit (bC Int (Ex Unit Bool)))):=
 fun t43=>
 bif (decide (t43<([-2,-1,0,1,2,3,4,8,9,10,24,25,100000,100001,1000000,1000001].length:Int)))then
 aX ((0:Int)<=t43/\t43<([-2,-1,0,1,2,3,4,8,9,10,24,25,100000,100001,1000000,1000001].length:Int)) (
 (pF).bind fun r_=>
 (Cg n (at' [-2,-1,0,1,2,3,4,8,9,10,24,25,100000,100001,1000000,1000001] t43.toNat) (⟨3,[(⟨0,1,500,0,20⟩:Source),(⟨2,2,300,0,40⟩:Source)],bQ,[(⟨(⟨1,-1⟩:ah),100,1⟩:aD)]⟩:af)).bind fun r_1=>
 (fq r_1).bind fun r_2=>
 (fe r_1).bind fun r_3=>
 bif (!decide (r_2=r_3))then
 some (.done (.ret (.done (.ret false))))
 else
 some (.next (IntKind.wrap .i64 (t43+1))))
 else
 some (.done (.brk ()))
def bV  :Int->Option (bC Int (Ex Unit Bool)):=
 fun n=>
 bif (decide (n<40))then
 Option.bind (aI (uM n) FUEL (0)) fun o=>match o with
 | .ret v=>some v
 | .brk _=>
 some (.next (IntKind.wrap .i64 (n+1)))
 else
 some (.done (.brk ()))
def jH (r_4:af):Int->Option (bC Int (Ex Unit Bool)):=
 fun n1=>
 bif (decide (n1<16384))then
 (uf r_4).bind fun r_5=>
 aX (((0:Int)<=0/\0<(r_5.1.a_.length:Int))/\((0:Int)<=1/\1<(r_5.1.a_.length:Int))/\((0:Int)<=0/\0<(r_5.1.bh.length:Int))/\((0:Int)<=0/\0<(r_5.1.aq.length:Int))/\((0:Int)<=1/\1<(r_5.1.aq.length:Int))/\((0:Int)<=0/\0<(r_5.1.on_.length:Int))/\((0:Int)<=1/\1<(r_5.1.on_.length:Int))/\((0:Int)<=0/\0<(r_5.1.am.length:Int))/\((0:Int)<=1/\1<(r_5.1.am.length:Int))/\((0:Int)<=0/\0<(r_5.1.ba.length:Int))/\((0:Int)<=2/\2<(r_5.1.ba.length:Int))/\((0:Int)<=0/\0<(r_5.1.ap.length:Int))/\((0:Int)<=1/\1<(r_5.1.ap.length:Int))/\((0:Int)<=2/\2<(r_5.1.ap.length:Int))) (
 aX (((0:Int)<=0/\0<(14:Int))/\((0:Int)<=0)/\(0<r_5.1.a_.length)) (
 aX (((0:Int)<=1/\1<(14:Int))/\((0:Int)<=1)/\(1<(r_5.1.a_.set 0 (decide ((IntKind.wrap .i64 (((BitVec.ofInt (IntKind.bits .i64) (Int.fdiv n1 (2 ^ min 0 (IntKind.bits .i64))) &&& BitVec.ofInt (IntKind.bits .i64) 1).toNat:Int)))=1))).length)) (
 aX (((0:Int)<=2/\2<(14:Int))/\((0:Int)<=2)/\(0<r_5.1.bh.length)) (
 aX (((0:Int)<=3/\3<(14:Int))/\((0:Int)<=3)/\(0<r_5.1.aq.length)) (
 aX (((0:Int)<=4/\4<(14:Int))/\((0:Int)<=4)/\(1<(r_5.1.aq.set 0 (decide ((IntKind.wrap .i64 (((BitVec.ofInt (IntKind.bits .i64) (Int.fdiv n1 (2 ^ min 3 (IntKind.bits .i64))) &&& BitVec.ofInt (IntKind.bits .i64) 1).toNat:Int)))=1))).length)) (
 aX (((0:Int)<=5/\5<(14:Int))/\((0:Int)<=5)/\(0<r_5.1.on_.length)) (
 aX (((0:Int)<=6/\6<(14:Int))/\((0:Int)<=6)/\(1<(r_5.1.on_.set 0 (decide ((IntKind.wrap .i64 (((BitVec.ofInt (IntKind.bits .i64) (Int.fdiv n1 (2 ^ min 5 (IntKind.bits .i64))) &&& BitVec.ofInt (IntKind.bits .i64) 1).toNat:Int)))=1))).length)) (
 aX (((0:Int)<=7/\7<(14:Int))/\((0:Int)<=7)/\(0<r_5.1.am.length)) (
 aX (((0:Int)<=8/\8<(14:Int))/\((0:Int)<=8)/\(1<(r_5.1.am.set 0 (decide ((IntKind.wrap .i64 (((BitVec.ofInt (IntKind.bits .i64) (Int.fdiv n1 (2 ^ min 7 (IntKind.bits .i64))) &&& BitVec.ofInt (IntKind.bits .i64) 1).toNat:Int)))=1))).length)) (
 aX (((0:Int)<=9/\9<(14:Int))/\((0:Int)<=9)/\(0<r_5.1.ba.length)) (
 aX (((0:Int)<=10/\10<(14:Int))/\((0:Int)<=10)/\(2<(r_5.1.ba.set 0 (decide ((IntKind.wrap .i64 (((BitVec.ofInt (IntKind.bits .i64) (Int.fdiv n1 (2 ^ min 9 (IntKind.bits .i64))) &&& BitVec.ofInt (IntKind.bits .i64) 1).toNat:Int)))=1))).length)) (
 aX (((0:Int)<=11/\11<(14:Int))/\((0:Int)<=11)/\(0<r_5.1.ap.length)) (
 aX (((0:Int)<=12/\12<(14:Int))/\((0:Int)<=12)/\(1<(r_5.1.ap.set 0 (decide ((IntKind.wrap .i64 (((BitVec.ofInt (IntKind.bits .i64) (Int.fdiv n1 (2 ^ min 11 (IntKind.bits .i64))) &&& BitVec.ofInt (IntKind.bits .i64) 1).toNat:Int)))=1))).length)) (
 aX (((0:Int)<=13/\13<(14:Int))/\((0:Int)<=13)/\(2<((r_5.1.ap.set 0 (decide ((IntKind.wrap .i64 (((BitVec.ofInt (IntKind.bits .i64) (Int.fdiv n1 (2 ^ min 11 (IntKind.bits .i64))) &&& BitVec.ofInt (IntKind.bits .i64) 1).toNat:Int)))=1))).set 1 (decide ((IntKind.wrap .i64 (((BitVec.ofInt (IntKind.bits .i64) (Int.fdiv n1 (2 ^ min 12 (IntKind.bits .i64))) &&& BitVec.ofInt (IntKind.bits .i64) 1).toNat:Int)))=1))).length)) (
 (gU r_4 (⟨(r_5.1.a_.set 0 (decide ((IntKind.wrap .i64 (((BitVec.ofInt (IntKind.bits .i64) (Int.fdiv n1 (2 ^ min 0 (IntKind.bits .i64))) &&& BitVec.ofInt (IntKind.bits .i64) 1).toNat:Int)))=1))).set 1 (decide ((IntKind.wrap .i64 (((BitVec.ofInt (IntKind.bits .i64) (Int.fdiv n1 (2 ^ min 1 (IntKind.bits .i64))) &&& BitVec.ofInt (IntKind.bits .i64) 1).toNat:Int)))=1)),r_5.1.bh.set 0 (decide ((IntKind.wrap .i64 (((BitVec.ofInt (IntKind.bits .i64) (Int.fdiv n1 (2 ^ min 2 (IntKind.bits .i64))) &&& BitVec.ofInt (IntKind.bits .i64) 1).toNat:Int)))=1)),(r_5.1.aq.set 0 (decide ((IntKind.wrap .i64 (((BitVec.ofInt (IntKind.bits .i64) (Int.fdiv n1 (2 ^ min 3 (IntKind.bits .i64))) &&& BitVec.ofInt (IntKind.bits .i64) 1).toNat:Int)))=1))).set 1 (decide ((IntKind.wrap .i64 (((BitVec.ofInt (IntKind.bits .i64) (Int.fdiv n1 (2 ^ min 4 (IntKind.bits .i64))) &&& BitVec.ofInt (IntKind.bits .i64) 1).toNat:Int)))=1)),(r_5.1.on_.set 0 (decide ((IntKind.wrap .i64 (((BitVec.ofInt (IntKind.bits .i64) (Int.fdiv n1 (2 ^ min 5 (IntKind.bits .i64))) &&& BitVec.ofInt (IntKind.bits .i64) 1).toNat:Int)))=1))).set 1 (decide ((IntKind.wrap .i64 (((BitVec.ofInt (IntKind.bits .i64) (Int.fdiv n1 (2 ^ min 6 (IntKind.bits .i64))) &&& BitVec.ofInt (IntKind.bits .i64) 1).toNat:Int)))=1)),(r_5.1.am.set 0 (decide ((IntKind.wrap .i64 (((BitVec.ofInt (IntKind.bits .i64) (Int.fdiv n1 (2 ^ min 7 (IntKind.bits .i64))) &&& BitVec.ofInt (IntKind.bits .i64) 1).toNat:Int)))=1))).set 1 (decide ((IntKind.wrap .i64 (((BitVec.ofInt (IntKind.bits .i64) (Int.fdiv n1 (2 ^ min 8 (IntKind.bits .i64))) &&& BitVec.ofInt (IntKind.bits .i64) 1).toNat:Int)))=1)),(r_5.1.ba.set 0 (decide ((IntKind.wrap .i64 (((BitVec.ofInt (IntKind.bits .i64) (Int.fdiv n1 (2 ^ min 9 (IntKind.bits .i64))) &&& BitVec.ofInt (IntKind.bits .i64) 1).toNat:Int)))=1))).set 2 (decide ((IntKind.wrap .i64 (((BitVec.ofInt (IntKind.bits .i64) (Int.fdiv n1 (2 ^ min 10 (IntKind.bits .i64))) &&& BitVec.ofInt (IntKind.bits .i64) 1).toNat:Int)))=1)),((r_5.1.ap.set 0 (decide ((IntKind.wrap .i64 (((BitVec.ofInt (IntKind.bits .i64) (Int.fdiv n1 (2 ^ min 11 (IntKind.bits .i64))) &&& BitVec.ofInt (IntKind.bits .i64) 1).toNat:Int)))=1))).set 1 (decide ((IntKind.wrap .i64 (((BitVec.ofInt (IntKind.bits .i64) (Int.fdiv n1 (2 ^ min 12 (IntKind.bits .i64))) &&& BitVec.ofInt (IntKind.bits .i64) 1).toNat:Int)))=1))).set 2 (decide ((IntKind.wrap .i64 (((BitVec.ofInt (IntKind.bits .i64) (Int.fdiv n1 (2 ^ min 13 (IntKind.bits .i64))) &&& BitVec.ofInt (IntKind.bits .i64) 1).toNat:Int)))=1))⟩:State)).bind fun r_6=>
 (jr r_4 (⟨(r_5.1.a_.set 0 (decide ((IntKind.wrap .i64 (((BitVec.ofInt (IntKind.bits .i64) (Int.fdiv n1 (2 ^ min 0 (IntKind.bits .i64))) &&& BitVec.ofInt (IntKind.bits .i64) 1).toNat:Int)))=1))).set 1 (decide ((IntKind.wrap .i64 (((BitVec.ofInt (IntKind.bits .i64) (Int.fdiv n1 (2 ^ min 1 (IntKind.bits .i64))) &&& BitVec.ofInt (IntKind.bits .i64) 1).toNat:Int)))=1)),r_5.1.bh.set 0 (decide ((IntKind.wrap .i64 (((BitVec.ofInt (IntKind.bits .i64) (Int.fdiv n1 (2 ^ min 2 (IntKind.bits .i64))) &&& BitVec.ofInt (IntKind.bits .i64) 1).toNat:Int)))=1)),(r_5.1.aq.set 0 (decide ((IntKind.wrap .i64 (((BitVec.ofInt (IntKind.bits .i64) (Int.fdiv n1 (2 ^ min 3 (IntKind.bits .i64))) &&& BitVec.ofInt (IntKind.bits .i64) 1).toNat:Int)))=1))).set 1 (decide ((IntKind.wrap .i64 (((BitVec.ofInt (IntKind.bits .i64) (Int.fdiv n1 (2 ^ min 4 (IntKind.bits .i64))) &&& BitVec.ofInt (IntKind.bits .i64) 1).toNat:Int)))=1)),(r_5.1.on_.set 0 (decide ((IntKind.wrap .i64 (((BitVec.ofInt (IntKind.bits .i64) (Int.fdiv n1 (2 ^ min 5 (IntKind.bits .i64))) &&& BitVec.ofInt (IntKind.bits .i64) 1).toNat:Int)))=1))).set 1 (decide ((IntKind.wrap .i64 (((BitVec.ofInt (IntKind.bits .i64) (Int.fdiv n1 (2 ^ min 6 (IntKind.bits .i64))) &&& BitVec.ofInt (IntKind.bits .i64) 1).toNat:Int)))=1)),(r_5.1.am.set 0 (decide ((IntKind.wrap .i64 (((BitVec.ofInt (IntKind.bits .i64) (Int.fdiv n1 (2 ^ min 7 (IntKind.bits .i64))) &&& BitVec.ofInt (IntKind.bits .i64) 1).toNat:Int)))=1))).set 1 (decide ((IntKind.wrap .i64 (((BitVec.ofInt (IntKind.bits .i64) (Int.fdiv n1 (2 ^ min 8 (IntKind.bits .i64))) &&& BitVec.ofInt (IntKind.bits .i64) 1).toNat:Int)))=1)),(r_5.1.ba.set 0 (decide ((IntKind.wrap .i64 (((BitVec.ofInt (IntKind.bits .i64) (Int.fdiv n1 (2 ^ min 9 (IntKind.bits .i64))) &&& BitVec.ofInt (IntKind.bits .i64) 1).toNat:Int)))=1))).set 2 (decide ((IntKind.wrap .i64 (((BitVec.ofInt (IntKind.bits .i64) (Int.fdiv n1 (2 ^ min 10 (IntKind.bits .i64))) &&& BitVec.ofInt (IntKind.bits .i64) 1).toNat:Int)))=1)),((r_5.1.ap.set 0 (decide ((IntKind.wrap .i64 (((BitVec.ofInt (IntKind.bits .i64) (Int.fdiv n1 (2 ^ min 11 (IntKind.bits .i64))) &&& BitVec.ofInt (IntKind.bits .i64) 1).toNat:Int)))=1))).set 1 (decide ((IntKind.wrap .i64 (((BitVec.ofInt (IntKind.bits .i64) (Int.fdiv n1 (2 ^ min 12 (IntKind.bits .i64))) &&& BitVec.ofInt (IntKind.bits .i64) 1).toNat:Int)))=1))).set 2 (decide ((IntKind.wrap .i64 (((BitVec.ofInt (IntKind.bits .i64) (Int.fdiv n1 (2 ^ min 13 (IntKind.bits .i64))) &&& BitVec.ofInt (IntKind.bits .i64) 1).toNat:Int)))=1))⟩:State)).bind fun r_7=>
 (gW r_4 (⟨(r_5.1.a_.set 0 (decide ((IntKind.wrap .i64 (((BitVec.ofInt (IntKind.bits .i64) (Int.fdiv n1 (2 ^ min 0 (IntKind.bits .i64))) &&& BitVec.ofInt (IntKind.bits .i64) 1).toNat:Int)))=1))).set 1 (decide ((IntKind.wrap .i64 (((BitVec.ofInt (IntKind.bits .i64) (Int.fdiv n1 (2 ^ min 1 (IntKind.bits .i64))) &&& BitVec.ofInt (IntKind.bits .i64) 1).toNat:Int)))=1)),r_5.1.bh.set 0 (decide ((IntKind.wrap .i64 (((BitVec.ofInt (IntKind.bits .i64) (Int.fdiv n1 (2 ^ min 2 (IntKind.bits .i64))) &&& BitVec.ofInt (IntKind.bits .i64) 1).toNat:Int)))=1)),(r_5.1.aq.set 0 (decide ((IntKind.wrap .i64 (((BitVec.ofInt (IntKind.bits .i64) (Int.fdiv n1 (2 ^ min 3 (IntKind.bits .i64))) &&& BitVec.ofInt (IntKind.bits .i64) 1).toNat:Int)))=1))).set 1 (decide ((IntKind.wrap .i64 (((BitVec.ofInt (IntKind.bits .i64) (Int.fdiv n1 (2 ^ min 4 (IntKind.bits .i64))) &&& BitVec.ofInt (IntKind.bits .i64) 1).toNat:Int)))=1)),(r_5.1.on_.set 0 (decide ((IntKind.wrap .i64 (((BitVec.ofInt (IntKind.bits .i64) (Int.fdiv n1 (2 ^ min 5 (IntKind.bits .i64))) &&& BitVec.ofInt (IntKind.bits .i64) 1).toNat:Int)))=1))).set 1 (decide ((IntKind.wrap .i64 (((BitVec.ofInt (IntKind.bits .i64) (Int.fdiv n1 (2 ^ min 6 (IntKind.bits .i64))) &&& BitVec.ofInt (IntKind.bits .i64) 1).toNat:Int)))=1)),(r_5.1.am.set 0 (decide ((IntKind.wrap .i64 (((BitVec.ofInt (IntKind.bits .i64) (Int.fdiv n1 (2 ^ min 7 (IntKind.bits .i64))) &&& BitVec.ofInt (IntKind.bits .i64) 1).toNat:Int)))=1))).set 1 (decide ((IntKind.wrap .i64 (((BitVec.ofInt (IntKind.bits .i64) (Int.fdiv n1 (2 ^ min 8 (IntKind.bits .i64))) &&& BitVec.ofInt (IntKind.bits .i64) 1).toNat:Int)))=1)),(r_5.1.ba.set 0 (decide ((IntKind.wrap .i64 (((BitVec.ofInt (IntKind.bits .i64) (Int.fdiv n1 (2 ^ min 9 (IntKind.bits .i64))) &&& BitVec.ofInt (IntKind.bits .i64) 1).toNat:Int)))=1))).set 2 (decide ((IntKind.wrap .i64 (((BitVec.ofInt (IntKind.bits .i64) (Int.fdiv n1 (2 ^ min 10 (IntKind.bits .i64))) &&& BitVec.ofInt (IntKind.bits .i64) 1).toNat:Int)))=1)),((r_5.1.ap.set 0 (decide ((IntKind.wrap .i64 (((BitVec.ofInt (IntKind.bits .i64) (Int.fdiv n1 (2 ^ min 11 (IntKind.bits .i64))) &&& BitVec.ofInt (IntKind.bits .i64) 1).toNat:Int)))=1))).set 1 (decide ((IntKind.wrap .i64 (((BitVec.ofInt (IntKind.bits .i64) (Int.fdiv n1 (2 ^ min 12 (IntKind.bits .i64))) &&& BitVec.ofInt (IntKind.bits .i64) 1).toNat:Int)))=1))).set 2 (decide ((IntKind.wrap .i64 (((BitVec.ofInt (IntKind.bits .i64) (Int.fdiv n1 (2 ^ min 13 (IntKind.bits .i64))) &&& BitVec.ofInt (IntKind.bits .i64) 1).toNat:Int)))=1))⟩:State)).bind fun r_8=>
 (jy r_4 (⟨(r_5.1.a_.set 0 (decide ((IntKind.wrap .i64 (((BitVec.ofInt (IntKind.bits .i64) (Int.fdiv n1 (2 ^ min 0 (IntKind.bits .i64))) &&& BitVec.ofInt (IntKind.bits .i64) 1).toNat:Int)))=1))).set 1 (decide ((IntKind.wrap .i64 (((BitVec.ofInt (IntKind.bits .i64) (Int.fdiv n1 (2 ^ min 1 (IntKind.bits .i64))) &&& BitVec.ofInt (IntKind.bits .i64) 1).toNat:Int)))=1)),r_5.1.bh.set 0 (decide ((IntKind.wrap .i64 (((BitVec.ofInt (IntKind.bits .i64) (Int.fdiv n1 (2 ^ min 2 (IntKind.bits .i64))) &&& BitVec.ofInt (IntKind.bits .i64) 1).toNat:Int)))=1)),(r_5.1.aq.set 0 (decide ((IntKind.wrap .i64 (((BitVec.ofInt (IntKind.bits .i64) (Int.fdiv n1 (2 ^ min 3 (IntKind.bits .i64))) &&& BitVec.ofInt (IntKind.bits .i64) 1).toNat:Int)))=1))).set 1 (decide ((IntKind.wrap .i64 (((BitVec.ofInt (IntKind.bits .i64) (Int.fdiv n1 (2 ^ min 4 (IntKind.bits .i64))) &&& BitVec.ofInt (IntKind.bits .i64) 1).toNat:Int)))=1)),(r_5.1.on_.set 0 (decide ((IntKind.wrap .i64 (((BitVec.ofInt (IntKind.bits .i64) (Int.fdiv n1 (2 ^ min 5 (IntKind.bits .i64))) &&& BitVec.ofInt (IntKind.bits .i64) 1).toNat:Int)))=1))).set 1 (decide ((IntKind.wrap .i64 (((BitVec.ofInt (IntKind.bits .i64) (Int.fdiv n1 (2 ^ min 6 (IntKind.bits .i64))) &&& BitVec.ofInt (IntKind.bits .i64) 1).toNat:Int)))=1)),(r_5.1.am.set 0 (decide ((IntKind.wrap .i64 (((BitVec.ofInt (IntKind.bits .i64) (Int.fdiv n1 (2 ^ min 7 (IntKind.bits .i64))) &&& BitVec.ofInt (IntKind.bits .i64) 1).toNat:Int)))=1))).set 1 (decide ((IntKind.wrap .i64 (((BitVec.ofInt (IntKind.bits .i64) (Int.fdiv n1 (2 ^ min 8 (IntKind.bits .i64))) &&& BitVec.ofInt (IntKind.bits .i64) 1).toNat:Int)))=1)),(r_5.1.ba.set 0 (decide ((IntKind.wrap .i64 (((BitVec.ofInt (IntKind.bits .i64) (Int.fdiv n1 (2 ^ min 9 (IntKind.bits .i64))) &&& BitVec.ofInt (IntKind.bits .i64) 1).toNat:Int)))=1))).set 2 (decide ((IntKind.wrap .i64 (((BitVec.ofInt (IntKind.bits .i64) (Int.fdiv n1 (2 ^ min 10 (IntKind.bits .i64))) &&& BitVec.ofInt (IntKind.bits .i64) 1).toNat:Int)))=1)),((r_5.1.ap.set 0 (decide ((IntKind.wrap .i64 (((BitVec.ofInt (IntKind.bits .i64) (Int.fdiv n1 (2 ^ min 11 (IntKind.bits .i64))) &&& BitVec.ofInt (IntKind.bits .i64) 1).toNat:Int)))=1))).set 1 (decide ((IntKind.wrap .i64 (((BitVec.ofInt (IntKind.bits .i64) (Int.fdiv n1 (2 ^ min 12 (IntKind.bits .i64))) &&& BitVec.ofInt (IntKind.bits .i64) 1).toNat:Int)))=1))).set 2 (decide ((IntKind.wrap .i64 (((BitVec.ofInt (IntKind.bits .i64) (Int.fdiv n1 (2 ^ min 13 (IntKind.bits .i64))) &&& BitVec.ofInt (IntKind.bits .i64) 1).toNat:Int)))=1))⟩:State)).bind fun r_9=>
 (bif gB [((bif (!decide (r_6.2=r_7.2))then true else(!decide (r_8.2=r_9.2))),false)]then dJ r_6.1 r_7.1 else some default).bind fun r_10=>
 (bif gB [((bif (bif (!decide (r_6.2=r_7.2))then true else(!decide (r_8.2=r_9.2)))then true else(!r_10)),false)]then fD r_8.1 r_9.1 else some default).bind fun r_11=>
 bif (bif (bif (bif (!decide (r_6.2=r_7.2))then true else(!decide (r_8.2=r_9.2)))then true else(!r_10))then true else(!r_11))then
 some (.done (.ret false))
 else
 some (.next (IntKind.wrap .i64 (n1+1))))))))))))))))))
 else
 some (.done (.brk ()))
def gN (r_12:ByteArray × Int) (i:Int):Int->Option (bC Int (Ex Unit (bC Int (Ex Unit Bool)))):=
 fun t221=>
 bif (decide (t221<([bD r_12.1 0 i.toNat,aA (bD r_12.1 0 i.toNat) (bD r_12.1 ((IntKind.wrap .i64 (i+1)).toNat) r_12.1.size),aA (aA (bD r_12.1 0 i.toNat) ⟨#[32]⟩) (bD r_12.1 i.toNat r_12.1.size),aA (aA (bD r_12.1 0 i.toNat) ⟨#[48]⟩) (bD r_12.1 i.toNat r_12.1.size),aA (aA (bD r_12.1 0 i.toNat) ⟨#[10]⟩) (bD r_12.1 i.toNat r_12.1.size),bD r_12.1 i.toNat r_12.1.size].length:Int)))then
 aX ((0:Int)<=t221/\t221<([bD r_12.1 0 i.toNat,aA (bD r_12.1 0 i.toNat) (bD r_12.1 ((IntKind.wrap .i64 (i+1)).toNat) r_12.1.size),aA (aA (bD r_12.1 0 i.toNat) ⟨#[32]⟩) (bD r_12.1 i.toNat r_12.1.size),aA (aA (bD r_12.1 0 i.toNat) ⟨#[48]⟩) (bD r_12.1 i.toNat r_12.1.size),aA (aA (bD r_12.1 0 i.toNat) ⟨#[10]⟩) (bD r_12.1 i.toNat r_12.1.size),bD r_12.1 i.toNat r_12.1.size].length:Int)) (
 (dX (at' [bD r_12.1 0 i.toNat,aA (bD r_12.1 0 i.toNat) (bD r_12.1 ((IntKind.wrap .i64 (i+1)).toNat) r_12.1.size),aA (aA (bD r_12.1 0 i.toNat) ⟨#[32]⟩) (bD r_12.1 i.toNat r_12.1.size),aA (aA (bD r_12.1 0 i.toNat) ⟨#[48]⟩) (bD r_12.1 i.toNat r_12.1.size),aA (aA (bD r_12.1 0 i.toNat) ⟨#[10]⟩) (bD r_12.1 i.toNat r_12.1.size),bD r_12.1 i.toNat r_12.1.size] t221.toNat)).bind fun r_13=>
 (kM (at' [bD r_12.1 0 i.toNat,aA (bD r_12.1 0 i.toNat) (bD r_12.1 ((IntKind.wrap .i64 (i+1)).toNat) r_12.1.size),aA (aA (bD r_12.1 0 i.toNat) ⟨#[32]⟩) (bD r_12.1 i.toNat r_12.1.size),aA (aA (bD r_12.1 0 i.toNat) ⟨#[48]⟩) (bD r_12.1 i.toNat r_12.1.size),aA (aA (bD r_12.1 0 i.toNat) ⟨#[10]⟩) (bD r_12.1 i.toNat r_12.1.size),bD r_12.1 i.toNat r_12.1.size] t221.toNat)).bind fun r_14=>
 (bif gB [((bif (!decide (r_13.2.2=r_14.2.2))then true else(!decide (r_13.2.1=r_14.2.1))),false)]then ic r_13.1 r_14.1 else some default).bind fun r_15=>
 bif (bif (bif (!decide (r_13.2.2=r_14.2.2))then true else(!decide (r_13.2.1=r_14.2.1)))then true else(!r_15))then
 some (.done (.ret (.done (.ret false))))
 else
 some (.next (IntKind.wrap .i64 (t221+1))))
 else
 some (.done (.brk ()))
def gM (r_12:ByteArray × Int):Int->Option (bC Int (Ex Unit Bool)):=
 fun i=>
 bif (decide (i<((r_12.1.size:Nat):Int)))then
 aX (((0:Int)<=i/\i<=((r_12.1.size:Nat):Int))/\((0:Int)<=(IntKind.wrap .i64 (i+1))/\(IntKind.wrap .i64 (i+1))<=((r_12.1.size:Nat):Int))/\((bD r_12.1 0 i.toNat).size+(bD r_12.1 ((IntKind.wrap .i64 (i+1)).toNat) r_12.1.size).size<=9223372036854775807)/\((bD r_12.1 0 i.toNat).size+(⟨#[32]⟩:ByteArray).size<=9223372036854775807)/\((aA (bD r_12.1 0 i.toNat) ⟨#[32]⟩).size+(bD r_12.1 i.toNat r_12.1.size).size<=9223372036854775807)/\((bD r_12.1 0 i.toNat).size+(⟨#[48]⟩:ByteArray).size<=9223372036854775807)/\((aA (bD r_12.1 0 i.toNat) ⟨#[48]⟩).size+(bD r_12.1 i.toNat r_12.1.size).size<=9223372036854775807)/\((bD r_12.1 0 i.toNat).size+(⟨#[10]⟩:ByteArray).size<=9223372036854775807)/\((aA (bD r_12.1 0 i.toNat) ⟨#[10]⟩).size+(bD r_12.1 i.toNat r_12.1.size).size<=9223372036854775807)) (
 Option.bind (aI (gN r_12 i) FUEL (0)) fun o=>match o with
 | .ret v=>some v
 | .brk _=>
 some (.next (IntKind.wrap .i64 (i+1))))
 else
 some (.done (.brk ()))
def gI:Option Bool:=
 Option.bind (aI bV FUEL (0)) fun o=>match o with
 | .ret v=>some v
 | .brk _=>
 (kV).bind fun r_4=>
 Option.bind (aI (jH r_4) FUEL (0)) fun o=>match o with
 | .ret v=>some v
 | .brk _=>
 (oZ r_4).bind fun r_12=>
 Option.bind (aI (gM r_12) FUEL (0)) fun o=>match o with
 | .ret v=>some v
 | .brk _=>
 aX (((0:Int)<=131073)/\((1:Int)*131073<=281474976710656)/\((131073:Int)<=9223372036854775807)) (
 (dX (qo (List.replicate 131073 (0:Int)))).bind fun r_16=>
 aX ((0<(List.replicate 131073 (0:Int)).length)/\(((List.replicate 131073 (0:Int)).map (DV.int .u8)).all qi=true)) (
 (dX (qo (zy (List.replicate 131073 (0:Int)) 0 131072))).bind fun r_17=>
 aX (((0:Int)<=(131072:Int)/\(131072:Int)<=((List.replicate 131073 (0:Int)).length:Int))/\(0<131072)/\(((zy (List.replicate 131073 (0:Int)) 0 131072).map (DV.int .u8)).all qi=true)) (
 (bif gB [((bif (bif (bif (decide (r_16.2.1=0))then(decide (r_16.2.2=2))else false)then(decide (r_17.2.1=0))else false)then(decide (r_17.2.2=3))else false),true)]then qL else some default).bind fun r_18=>
 some (bif (bif (bif (bif (decide (r_16.2.1=0))then(decide (r_16.2.2=2))else false)then(decide (r_17.2.1=0))else false)then(decide (r_17.2.2=3))else false)then r_18 else false))))
end Sg
