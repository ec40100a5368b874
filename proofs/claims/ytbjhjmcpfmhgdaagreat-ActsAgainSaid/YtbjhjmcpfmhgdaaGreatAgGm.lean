import Derived.Test.YtbjhjmcpfmhgdaaGreatAgLe
set_option linter.all false
namespace Sg
open Go
structure State where
 closed:(List Bool)
 locked:(List Bool)
 badLink:(List Bool)
 on_:(List Bool)
 badSource:(List Bool)
 earthed:(List Bool)
 badBus:(List Bool)
instance:Inhabited State:=⟨⟨default,default,default,default,default,default,default⟩⟩
def State.cell (x:State):Nat→DV
 |0=>(aB none 1 af x.closed)
 |1=>(aB none 1 af x.locked)
 |2=>(aB none 1 af x.badLink)
 |3=>(aB none 1 af x.on_)
 |4=>(aB none 1 af x.badSource)
 |5=>(aB none 1 af x.earthed)
 |6=>(aB none 1 af x.badBus)
 |_=> .nilp
structure Source where
 bus:Int
 kind:Int
 power:Int
 sync:Int
 ohm:Int
instance:Inhabited Source:=⟨⟨default,default,default,default,default⟩⟩
def Source.cell (x:Source):Nat→DV
 |0=>(.int .i64 x.bus)
 |1=>(.int .i64 x.kind)
 |2=>(.int .i64 x.power)
 |3=>(.int .i64 x.sync)
 |4=>(.int .i64 x.ohm)
 |_=> .nilp
structure dO where
 amps:Int
 millis:Int
instance:Inhabited dO:=⟨⟨default,default⟩⟩
def dO.cell (x:dO):Nat→DV
 |0=>(.int .i64 x.amps)
 |1=>(.int .i64 x.millis)
 |_=> .nilp
structure Link where
 a:Int
 b:Int
 kind:Int
 most:Int
 ohm:Int
 trip:(List dO)
instance:Inhabited Link:=⟨⟨default,default,default,default,default,default⟩⟩
def Link.cell (x:Link):Nat→DV
 |0=>(.int .i64 x.a)
 |1=>(.int .i64 x.b)
 |2=>(.int .i64 x.kind)
 |3=>(.int .i64 x.most)
 |4=>(.int .i64 x.ohm)
 |5=>(aB none 2 dO.cell x.trip)
 |_=> .nilp
structure aN where
 e0:Int
 e1:Int
instance:Inhabited aN:=⟨⟨default,default⟩⟩
def aN.cell (x:aN):Nat→DV
 |0=>(.int .i64 x.e0)
 |1=>(.int .i64 x.e1)
 |_=> .nilp
structure aL where
 feeds:aN
 power:Int
 paths:Int
instance:Inhabited aL:=⟨⟨default,default,default⟩⟩
def aL.cell (x:aL):Nat→DV
 |0=>(.int .i64 x.feeds.e0)
 |1=>(.int .i64 x.feeds.e1)
 |2=>(.int .i64 x.power)
 |3=>(.int .i64 x.paths)
 |_=> .nilp
structure ay where
 buses:Int
 sources:(List Source)
 links:(List Link)
 racks:(List aL)
instance:Inhabited ay:=⟨⟨default,default,default,default⟩⟩
def ay.cell (x:ay):Nat→DV
 |0=>(.int .i64 x.buses)
 |1=>(aB none 5 Source.cell x.sources)
 |2=>(aB none 6 Link.cell x.links)
 |3=>(aB none 4 aL.cell x.racks)
 |_=> .nilp
structure aj where
 deed:Int
 index:Int
instance:Inhabited aj:=⟨⟨default,default⟩⟩
def aj.cell (x:aj):Nat→DV
 |0=>(.int .i64 x.deed)
 |1=>(.int .i64 x.index)
 |_=> .nilp
structure Task where
 fed:(List Int)
 crew:(List Int)
 allowed:(List aj)
 goal:(List aj)
instance:Inhabited Task:=⟨⟨default,default,default,default⟩⟩
def Task.cell (x:Task):Nat→DV
 |0=>(aB none 1 (aS .i64) x.fed)
 |1=>(aB none 1 (aS .i64) x.crew)
 |2=>(aB none 2 aj.cell x.allowed)
 |3=>(aB none 2 aj.cell x.goal)
 |_=> .nilp
structure Item where
 step:aj
 ack:Bool
instance:Inhabited Item:=⟨⟨default,default⟩⟩
def Item.cell (x:Item):Nat→DV
 |0=>(.int .i64 x.step.deed)
 |1=>(.int .i64 x.step.index)
 |2=>(.bool x.ack)
 |_=> .nilp
structure bX where
 l:(List Bool)
 n:Int
instance:Inhabited bX:=⟨⟨default,default⟩⟩
def bX.cell (x:bX):Nat→DV
 |0=>(aB none 1 af x.l)
 |1=>(.int .i64 x.n)
 |_=> .nilp
structure aZ where
 head:(List (Int × Int))
instance:Inhabited aZ:=⟨⟨default⟩⟩
def aZ.cell (x:aZ):Nat→DV
 |0=> .nilp
 |_=> .nilp
structure aH where
 buses:(List Int)
 sources:(List Int)
instance:Inhabited aH:=⟨⟨default,default⟩⟩
def aH.cell (x:aH):Nat→DV
 |0=>(aB none 1 (aS .i64) x.buses)
 |1=>(aB none 1 (aS .i64) x.sources)
 |_=> .nilp
structure ax where
 e0:Bool
 e1:Bool
instance:Inhabited ax:=⟨⟨default,default⟩⟩
def ax.cell (x:ax):Nat→DV
 |0=>(.bool x.e0)
 |1=>(.bool x.e1)
 |_=> .nilp
structure Part where
 kind:Int
 index:Int
instance:Inhabited Part:=⟨⟨default,default⟩⟩
def Part.cell (x:Part):Nat→DV
 |0=>(.int .i64 x.kind)
 |1=>(.int .i64 x.index)
 |_=> .nilp
structure av where
 kind:Int
 step:aj
 part:Part
 who:Int
instance:Inhabited av:=⟨⟨default,default,default,default⟩⟩
def av.cell (x:av):Nat→DV
 |0=>(.int .i64 x.kind)
 |1=>(.int .i64 x.step.deed)
 |2=>(.int .i64 x.step.index)
 |3=>(.int .i64 x.part.kind)
 |4=>(.int .i64 x.part.index)
 |5=>(.int .i64 x.who)
 |_=> .nilp
structure Setting where
 plant:ay
 begin:State
 task:Task
 items:(List Item)
instance:Inhabited Setting:=⟨⟨default,default,default,default⟩⟩
def Setting.cell (x:Setting):Nat→DV
 |0=>(.int .i64 x.plant.buses)
 |1=>(aB none 5 Source.cell x.plant.sources)
 |2=>(aB none 6 Link.cell x.plant.links)
 |3=>(aB none 4 aL.cell x.plant.racks)
 |4=>(aB none 1 af x.begin.closed)
 |5=>(aB none 1 af x.begin.locked)
 |6=>(aB none 1 af x.begin.badLink)
 |7=>(aB none 1 af x.begin.on_)
 |8=>(aB none 1 af x.begin.badSource)
 |9=>(aB none 1 af x.begin.earthed)
 |10=>(aB none 1 af x.begin.badBus)
 |11=>(aB none 1 (aS .i64) x.task.fed)
 |12=>(aB none 1 (aS .i64) x.task.crew)
 |13=>(aB none 2 aj.cell x.task.allowed)
 |14=>(aB none 2 aj.cell x.task.goal)
 |15=>(aB none 3 Item.cell x.items)
 |_=> .nilp
structure Run where
 setting:Setting
 now:State
 done:Int
 wait:Bool
 back:Bool
 log:(List av)
instance:Inhabited Run:=⟨⟨default,default,default,default,default,default⟩⟩
def Run.cell (x:Run):Nat→DV
 |0=>(uH [(.int .i64 x.setting.plant.buses),(aB none 5 Source.cell x.setting.plant.sources),(aB none 6 Link.cell x.setting.plant.links),(aB none 4 aL.cell x.setting.plant.racks),(aB none 1 af x.setting.begin.closed),(aB none 1 af x.setting.begin.locked),(aB none 1 af x.setting.begin.badLink),(aB none 1 af x.setting.begin.on_),(aB none 1 af x.setting.begin.badSource),(aB none 1 af x.setting.begin.earthed),(aB none 1 af x.setting.begin.badBus),(aB none 1 (aS .i64) x.setting.task.fed),(aB none 1 (aS .i64) x.setting.task.crew),(aB none 2 aj.cell x.setting.task.allowed),(aB none 2 aj.cell x.setting.task.goal),(aB none 3 Item.cell x.setting.items)] 0)
 |1=>(aB none 1 af x.now.closed)
 |2=>(aB none 1 af x.now.locked)
 |3=>(aB none 1 af x.now.badLink)
 |4=>(aB none 1 af x.now.on_)
 |5=>(aB none 1 af x.now.badSource)
 |6=>(aB none 1 af x.now.earthed)
 |7=>(aB none 1 af x.now.badBus)
 |8=>(.int .i64 x.done)
 |9=>(.bool x.wait)
 |10=>(.bool x.back)
 |11=>(aB none 6 av.cell x.log)
 |_=> .nilp
structure eY where
 rack:Int
 event:Int
instance:Inhabited eY:=⟨⟨default,default⟩⟩
def eY.cell (x:eY):Nat→DV
 |0=>(.int .i64 x.rack)
 |1=>(.int .i64 x.event)
 |_=> .nilp
structure Event where
 kind:Int
 step:aj
 part:Part
 who:Int
instance:Inhabited Event:=⟨⟨default,default,default,default⟩⟩
def Event.cell (x:Event):Nat→DV
 |0=>(.int .i64 x.kind)
 |1=>(.int .i64 x.step.deed)
 |2=>(.int .i64 x.step.index)
 |3=>(.int .i64 x.part.kind)
 |4=>(.int .i64 x.part.index)
 |5=>(.int .i64 x.who)
 |_=> .nilp
structure Status where
 done:Int
 left:Int
 waiting:Bool
 back:Bool
instance:Inhabited Status:=⟨⟨default,default,default,default⟩⟩
def Status.cell (x:Status):Nat→DV
 |0=>(.int .i64 x.done)
 |1=>(.int .i64 x.left)
 |2=>(.bool x.waiting)
 |3=>(.bool x.back)
 |_=> .nilp
def aH.ev (x:aH):Nat→EV
 |0=> .row 3 1 x.buses.length (aD (aS .i64) x.buses)
 |1=> .row 3 1 x.sources.length (aD (aS .i64) x.sources)
 |_=> .d .nilp
def jm (a:(List Bool)) (b:(List Bool)):Int→Option (dh Int (Ex Unit Bool)):=
 fun i=>
 bif (decide (i<(a.length:Int)))then
 bg (((0:Int)≤i∧i<(a.length:Int))∧((0:Int)≤i∧i<(b.length:Int))) (
 bif (!((at' a i.toNat)==(at' b i.toNat)))then
 some (.done (.ret false))
 else
 some (.next (IntKind.wrap .i64 (i+1))))
 else
 some (.done (.brk ()))
def dB (a:(List Bool)) (b:(List Bool)):Option Bool:=
 bif (!decide ((a.length:Int)=(b.length:Int)))then
 some false
 else
 Option.bind (aV (jm a b) FUEL (0)) fun o=>match o with
 | .ret v=>some v
 | .brk _=>
 some true
def iH (a:State) (b:State):Option Bool:=
 (dB a.closed b.closed).bind fun r_=>
 (bif gB [(r_,true)]then dB a.locked b.locked else some default).bind fun r_1=>
 (bif gB [((bif r_ then r_1 else false),true)]then dB a.badLink b.badLink else some default).bind fun r_2=>
 (bif gB [((bif (bif r_ then r_1 else false)then r_2 else false),true)]then dB a.on_ b.on_ else some default).bind fun r_3=>
 (bif gB [((bif (bif (bif r_ then r_1 else false)then r_2 else false)then r_3 else false),true)]then dB a.badSource b.badSource else some default).bind fun r_4=>
 (bif gB [((bif (bif (bif (bif r_ then r_1 else false)then r_2 else false)then r_3 else false)then r_4 else false),true)]then dB a.earthed b.earthed else some default).bind fun r_5=>
 (bif gB [((bif (bif (bif (bif (bif r_ then r_1 else false)then r_2 else false)then r_3 else false)then r_4 else false)then r_5 else false),true)]then dB a.badBus b.badBus else some default).bind fun r_6=>
 some (bif (bif (bif (bif (bif (bif r_ then r_1 else false)then r_2 else false)then r_3 else false)then r_4 else false)then r_5 else false)then r_6 else false)
def pW (p:ay) (t:Task) (l:(List Item)):Option Bool:=
 some (bif (bif (bif (bif (bif (bif (bif (decide (60<(p.sources.length:Int)))then true else(decide (60<(p.links.length:Int))))then true else(decide (60<(p.racks.length:Int))))then true else(decide (60<(t.fed.length:Int))))then true else(decide (60<(t.crew.length:Int))))then true else(decide (60<(t.allowed.length:Int))))then true else(decide (60<(t.goal.length:Int))))then true else(decide (70<(l.length:Int))))
def aW (n:Int) (first:Int) (last:Int):Option Bool:=
 some (bif (decide (first≤n))then(decide (n≤last))else false)
def sG (p:ay):Option (Int × (List Source) × (List Link) × (List aL)):=
 some (p.buses,p.sources,p.links,p.racks)
def wO (p:ay):Option (Int × (List Source) × (List Link) × (List aL)):=
 some (p.buses,p.sources,p.links,p.racks)
def wh (p:ay):Option (Int × (List Source) × (List Link) × (List aL)):=
 some (p.buses,p.sources,p.links,p.racks)
def lZ (x:Source) (x1:Int) (x11:(List Source)) (x12:(List Link)) (x13:(List aL)):Option Bool:=
 (aW x.bus 0 (IntKind.wrap .i64 (x1 - 1))).bind fun r_=>
 (bif gB [(r_,true)]then aW x.kind 1 3 else some default).bind fun r_1=>
 (bif gB [((bif r_ then r_1 else false),true)]then aW x.power 1 100000 else some default).bind fun r_2=>
 (bif gB [((bif (bif r_ then r_1 else false)then r_2 else false),true)]then aW x.sync 0 8 else some default).bind fun r_3=>
 (bif gB [((bif (bif (bif r_ then r_1 else false)then r_2 else false)then r_3 else false),true)]then aW x.ohm 10 100000 else some default).bind fun r_4=>
 some (bif (bif (bif (bif r_ then r_1 else false)then r_2 else false)then r_3 else false)then r_4 else false)
def sJ (x:Source) (x1:Int) (x11:(List Source)) (x12:(List Link)) (x13:(List aL)):Option Bool:=
 (lZ x x1 x11 x12 x13).bind fun r_=>
 some (!r_)
def kJ (s_:(List Source)) (f_:Int) (f_1:(List Source)) (f_2:(List Link)) (f_3:(List aL)):Int→Option (dh Int (Ex Unit Int)):=
 fun t8=>
 bif (decide (t8<(s_.length:Int)))then
 (sJ (at' s_ t8.toNat) f_ f_1 f_2 f_3).bind fun r_=>
 bg ((0:Int)≤t8∧t8<(s_.length:Int)) (
 bif r_ then
 some (.done (.ret t8))
 else
 some (.next (IntKind.wrap .i64 (t8+1))))
 else
 some (.done (.brk ()))
def mZ (s_:(List Source)) (f_:Int) (f_1:(List Source)) (f_2:(List Link)) (f_3:(List aL)):Option Int:=
 Option.bind (aV (kJ s_ f_ f_1 f_2 f_3) FUEL (0)) fun o=>match o with
 | .ret v=>some v
 | .brk _=>
 some (-1)
def iw (s_:(List Source)) (f_:Int) (f_1:(List Source)) (f_2:(List Link)) (f_3:(List aL)):Option Bool:=
 (mZ s_ f_ f_1 f_2 f_3).bind fun r_=>
 some (decide (0≤r_))
def qM (l:(List Source)) (most:Int) (right:Int) (right1:(List Source)) (right2:(List Link)) (right3:(List aL)):Option Bool:=
 (bif gB [((decide ((l.length:Int)≤most)),true)]then iw l right right1 right2 right3 else some default).bind fun r_=>
 some (bif (decide ((l.length:Int)≤most))then(!r_)else false)
def kQ (x:Link):Int→Option (dh Int (Ex Unit Bool)):=
 fun t50=>
 bif (decide (t50<(x.trip.length:Int)))then
 bg ((0:Int)≤t50∧t50<(x.trip.length:Int)) (
 (aW ((at' x.trip t50.toNat).amps) 1 1000000).bind fun r_5=>
 (bif gB [((!r_5),false)]then aW ((at' x.trip t50.toNat).millis) 1 100000 else some default).bind fun r_6=>
 bg ((gB [((decide (0<t50)),true),((bif (!r_5)then true else(!r_6)),false)]=true→(0:Int)≤(IntKind.wrap .i64 (t50 - 1))∧(IntKind.wrap .i64 (t50 - 1))<(x.trip.length:Int))∧(gB [((decide (((at' x.trip t50.toNat).amps)≤((at' x.trip ((IntKind.wrap .i64 (t50 - 1)).toNat)).amps))),false),((decide (0<t50)),true),((bif (!r_5)then true else(!r_6)),false)]=true→(0:Int)≤(IntKind.wrap .i64 (t50 - 1))∧(IntKind.wrap .i64 (t50 - 1))<(x.trip.length:Int))) (
 bif (bif (bif (!r_5)then true else(!r_6))then true else(bif (decide (0<t50))then(bif (decide (((at' x.trip t50.toNat).amps)≤((at' x.trip ((IntKind.wrap .i64 (t50 - 1)).toNat)).amps)))then true else(decide (((at' x.trip ((IntKind.wrap .i64 (t50 - 1)).toNat)).millis)≤((at' x.trip t50.toNat).millis))))else false))then
 some (.done (.ret false))
 else
 some (.next (IntKind.wrap .i64 (t50+1)))))
 else
 some (.done (.brk ()))
def nO (x:Link) (x1:Int) (x11:(List Source)) (x12:(List Link)) (x13:(List aL)):Option Bool:=
 (aW x.a 0 (IntKind.wrap .i64 (x1 - 1))).bind fun r_=>
 (bif gB [((!r_),false)]then aW x.b 0 (IntKind.wrap .i64 (x1 - 1))else some default).bind fun r_1=>
 (bif gB [((bif (bif (!r_)then true else(!r_1))then true else(decide (x.a=x.b))),false)]then aW x.kind 1 3 else some default).bind fun r_2=>
 (bif gB [((bif (bif (bif (!r_)then true else(!r_1))then true else(decide (x.a=x.b)))then true else(!r_2)),false)]then aW x.most 1 100000 else some default).bind fun r_3=>
 (bif gB [((bif (bif (bif (bif (!r_)then true else(!r_1))then true else(decide (x.a=x.b)))then true else(!r_2))then true else(!r_3)),false)]then aW x.ohm 10 100000 else some default).bind fun r_4=>
 bif (bif (bif (bif (bif (bif (!r_)then true else(!r_1))then true else(decide (x.a=x.b)))then true else(!r_2))then true else(!r_3))then true else(!r_4))then
 some false
 else
 Option.bind (aV (kQ x) FUEL (0)) fun o=>match o with
 | .ret v=>some v
 | .brk _=>
 some (bif (decide ((x.trip.length:Int)≤6))then(bif (decide ((x.trip.length:Int)=0))then true else(decide (x.kind=3)))else false)
def nT (x:Link) (x1:Int) (x11:(List Source)) (x12:(List Link)) (x13:(List aL)):Option Bool:=
 (nO x x1 x11 x12 x13).bind fun r_=>
 some (!r_)
def iY (s_:(List Link)) (f_:Int) (f_1:(List Source)) (f_2:(List Link)) (f_3:(List aL)):Int→Option (dh Int (Ex Unit Int)):=
 fun t8=>
 bif (decide (t8<(s_.length:Int)))then
 (nT (at' s_ t8.toNat) f_ f_1 f_2 f_3).bind fun r_=>
 bg ((0:Int)≤t8∧t8<(s_.length:Int)) (
 bif r_ then
 some (.done (.ret t8))
 else
 some (.next (IntKind.wrap .i64 (t8+1))))
 else
 some (.done (.brk ()))
def kI (s_:(List Link)) (f_:Int) (f_1:(List Source)) (f_2:(List Link)) (f_3:(List aL)):Option Int:=
 Option.bind (aV (iY s_ f_ f_1 f_2 f_3) FUEL (0)) fun o=>match o with
 | .ret v=>some v
 | .brk _=>
 some (-1)
def fJ (s_:(List Link)) (f_:Int) (f_1:(List Source)) (f_2:(List Link)) (f_3:(List aL)):Option Bool:=
 (kI s_ f_ f_1 f_2 f_3).bind fun r_=>
 some (decide (0≤r_))
def oH (l:(List Link)) (most:Int) (right:Int) (right1:(List Source)) (right2:(List Link)) (right3:(List aL)):Option Bool:=
 (bif gB [((decide ((l.length:Int)≤most)),true)]then fJ l right right1 right2 right3 else some default).bind fun r_=>
 some (bif (decide ((l.length:Int)≤most))then(!r_)else false)
def pJ (x:aL):Option Int:=
 bif (decide (x.feeds.e1=(-1)))then
 some 1
 else
 some 2
def oI (x:aL) (x1:Int) (x11:(List Source)) (x12:(List Link)) (x13:(List aL)):Option Bool:=
 (aW x.feeds.e0 0 (IntKind.wrap .i64 (x1 - 1))).bind fun r_=>
 (bif gB [(r_,true)]then aW x.feeds.e1 (-1) (IntKind.wrap .i64 (x1 - 1))else some default).bind fun r_1=>
 (bif gB [((bif (bif r_ then r_1 else false)then(!decide (x.feeds.e0=x.feeds.e1))else false),true)]then aW x.power 1 100000 else some default).bind fun r_2=>
 (bif gB [((bif (bif (bif r_ then r_1 else false)then(!decide (x.feeds.e0=x.feeds.e1))else false)then r_2 else false),true)]then pJ x else some default).bind fun r_3=>
 (bif gB [((bif (bif (bif r_ then r_1 else false)then(!decide (x.feeds.e0=x.feeds.e1))else false)then r_2 else false),true)]then aW x.paths 0 r_3 else some default).bind fun r_4=>
 some (bif (bif (bif (bif r_ then r_1 else false)then(!decide (x.feeds.e0=x.feeds.e1))else false)then r_2 else false)then r_4 else false)
def oM (x:aL) (x1:Int) (x11:(List Source)) (x12:(List Link)) (x13:(List aL)):Option Bool:=
 (oI x x1 x11 x12 x13).bind fun r_=>
 some (!r_)
def iZ (s_:(List aL)) (f_:Int) (f_1:(List Source)) (f_2:(List Link)) (f_3:(List aL)):Int→Option (dh Int (Ex Unit Int)):=
 fun t8=>
 bif (decide (t8<(s_.length:Int)))then
 (oM (⟨((at' s_ t8.toNat).feeds),(at' s_ t8.toNat).power,(at' s_ t8.toNat).paths⟩:aL) f_ f_1 f_2 f_3).bind fun r_=>
 bg ((0:Int)≤t8∧t8<(s_.length:Int)) (
 bif r_ then
 some (.done (.ret t8))
 else
 some (.next (IntKind.wrap .i64 (t8+1))))
 else
 some (.done (.brk ()))
def kF (s_:(List aL)) (f_:Int) (f_1:(List Source)) (f_2:(List Link)) (f_3:(List aL)):Option Int:=
 Option.bind (aV (iZ s_ f_ f_1 f_2 f_3) FUEL (0)) fun o=>match o with
 | .ret v=>some v
 | .brk _=>
 some (-1)
def fI (s_:(List aL)) (f_:Int) (f_1:(List Source)) (f_2:(List Link)) (f_3:(List aL)):Option Bool:=
 (kF s_ f_ f_1 f_2 f_3).bind fun r_=>
 some (decide (0≤r_))
def oh (l:(List aL)) (most:Int) (right:Int) (right1:(List Source)) (right2:(List Link)) (right3:(List aL)):Option Bool:=
 (bif gB [((decide ((l.length:Int)≤most)),true)]then fI l right right1 right2 right3 else some default).bind fun r_=>
 some (bif (decide ((l.length:Int)≤most))then(!r_)else false)
def pG (p:ay):Option Int:=
 (aW p.buses 1 24).bind fun r_=>
 bif (!r_)then
 some 10
 else
 (sG p).bind fun r_1=>
 (qM p.sources 8 r_1.1 r_1.2.1 r_1.2.2.1 r_1.2.2.2).bind fun r_2=>
 bif (!r_2)then
 some 11
 else
 (wO p).bind fun r_3=>
 (oH p.links 40 r_3.1 r_3.2.1 r_3.2.2.1 r_3.2.2.2).bind fun r_4=>
 bif (!r_4)then
 some 12
 else
 (wh p).bind fun r_5=>
 (oh p.racks 24 r_5.1 r_5.2.1 r_5.2.2.1 r_5.2.2.2).bind fun r_6=>
 bif (!r_6)then
 some 13
 else
 some 0
def iA (p:ay) (s_:State):Int→Option (dh Int (Ex Unit Int)):=
 fun t55=>
 bif (decide (t55<([(⟨s_.closed,(p.links.length:Int)⟩:bX),(⟨s_.locked,(p.links.length:Int)⟩:bX),(⟨s_.badLink,(p.links.length:Int)⟩:bX),(⟨s_.on_,(p.sources.length:Int)⟩:bX),(⟨s_.badSource,(p.sources.length:Int)⟩:bX),(⟨s_.earthed,p.buses⟩:bX),(⟨s_.badBus,p.buses⟩:bX)].length:Int)))then
 bg ((0:Int)≤t55∧t55<([(⟨s_.closed,(p.links.length:Int)⟩:bX),(⟨s_.locked,(p.links.length:Int)⟩:bX),(⟨s_.badLink,(p.links.length:Int)⟩:bX),(⟨s_.on_,(p.sources.length:Int)⟩:bX),(⟨s_.badSource,(p.sources.length:Int)⟩:bX),(⟨s_.earthed,p.buses⟩:bX),(⟨s_.badBus,p.buses⟩:bX)].length:Int)) (
 bif (!decide ((((at' [(⟨s_.closed,(p.links.length:Int)⟩:bX),(⟨s_.locked,(p.links.length:Int)⟩:bX),(⟨s_.badLink,(p.links.length:Int)⟩:bX),(⟨s_.on_,(p.sources.length:Int)⟩:bX),(⟨s_.badSource,(p.sources.length:Int)⟩:bX),(⟨s_.earthed,p.buses⟩:bX),(⟨s_.badBus,p.buses⟩:bX)] t55.toNat).l).length:Int)=((at' [(⟨s_.closed,(p.links.length:Int)⟩:bX),(⟨s_.locked,(p.links.length:Int)⟩:bX),(⟨s_.badLink,(p.links.length:Int)⟩:bX),(⟨s_.on_,(p.sources.length:Int)⟩:bX),(⟨s_.badSource,(p.sources.length:Int)⟩:bX),(⟨s_.earthed,p.buses⟩:bX),(⟨s_.badBus,p.buses⟩:bX)] t55.toNat).n)))then
 some (.done (.ret 9))
 else
 some (.next (IntKind.wrap .i64 (t55+1))))
 else
 some (.done (.brk ()))
def iB (p:ay) (s_:State):Int→Option (dh Int (Ex Unit Int)):=
 fun t69=>
 bif (decide (t69<(p.links.length:Int)))then
 bg ((0:Int)≤t69∧t69<(p.links.length:Int)) (
 bg ((gB [((decide (((at' p.links t69.toNat).kind)=1)),true)]=true→(0:Int)≤t69∧t69<(s_.closed.length:Int))∧(gB [((!(at' s_.closed t69.toNat)),false),((decide (((at' p.links t69.toNat).kind)=1)),true)]=true→(0:Int)≤t69∧t69<(s_.locked.length:Int))) (
 bif (bif (decide (((at' p.links t69.toNat).kind)=1))then(bif (!(at' s_.closed t69.toNat))then true else(at' s_.locked t69.toNat))else false)then
 some (.done (.ret 9))
 else
 some (.next (IntKind.wrap .i64 (t69+1)))))
 else
 some (.done (.brk ()))
def cK (p:ay) (s_:State):Option Int:=
 (pG p).bind fun r_=>
 bif (!decide (r_=0))then
 some r_
 else
 Option.bind (aV (iA p s_) FUEL (0)) fun o=>match o with
 | .ret v=>some v
 | .brk _=>
 Option.bind (aV (iB p s_) FUEL (0)) fun o=>match o with
 | .ret v=>some v
 | .brk _=>
 some 0
def nk (i:Int) (x1:Int):Option Bool:=
 some (bif (decide (i<0))then true else(decide (x1≤i)))
def ji (s_:(List Int)) (f_:Int):Int→Option (dh Int (Ex Unit Int)):=
 fun t8=>
 bif (decide (t8<(s_.length:Int)))then
 (nk (at' s_ t8.toNat) f_).bind fun r_=>
 bg ((0:Int)≤t8∧t8<(s_.length:Int)) (
 bif r_ then
 some (.done (.ret t8))
 else
 some (.next (IntKind.wrap .i64 (t8+1))))
 else
 some (.done (.brk ()))
def kH (s_:(List Int)) (f_:Int):Option Int:=
 Option.bind (aV (ji s_ f_) FUEL (0)) fun o=>match o with
 | .ret v=>some v
 | .brk _=>
 some (-1)
def fV (s_:(List Int)) (f_:Int):Option Bool:=
 (kH s_ f_).bind fun r_=>
 some (decide (0≤r_))
def jE (l:(List Int)) (n:Int):Option Bool:=
 (bif gB [((decide ((l.length:Int)≤24)),true)]then fV l n else some default).bind fun r_=>
 some (bif (decide ((l.length:Int)≤24))then(!r_)else false)
def lH (p:ay) (x:aj):Option Bool:=
 bif (decide (x.deed=1))then
 bif (decide (x.deed=1))then
 bg (gB [((bif (decide (0≤x.index))then(decide (x.index<(p.links.length:Int)))else false),true)]=true→(0:Int)≤x.index∧x.index<(p.links.length:Int)) (
 some (bif (bif (decide (0≤x.index))then(decide (x.index<(p.links.length:Int)))else false)then(!decide (((at' p.links x.index.toNat).kind)=1))else false))
 else
 bif (decide (x.deed=3))then
 bif (decide (x.deed=3))then
 some (bif (decide (0≤x.index))then(decide (x.index<p.buses))else false)
 else
 bif (decide (x.deed=7))then
 bif (decide (x.deed=7))then
 some (bif (decide (0≤x.index))then(decide (x.index<(p.sources.length:Int)))else false)
 else
 bg (gB [((bif (decide (0≤x.index))then(decide (x.index<0))else false),true)]=true→(0:Int)≤x.index∧x.index<(p.links.length:Int)) (
 some (bif (bif (decide (0≤x.index))then(decide (x.index<0))else false)then(!decide (((at' p.links x.index.toNat).kind)=1))else false))
 else
 bif (decide (x.deed=8))then
 some (bif (decide (0≤x.index))then(decide (x.index<(p.sources.length:Int)))else false)
 else
 bg (gB [((bif (decide (0≤x.index))then(decide (x.index<0))else false),true)]=true→(0:Int)≤x.index∧x.index<(p.links.length:Int)) (
 some (bif (bif (decide (0≤x.index))then(decide (x.index<0))else false)then(!decide (((at' p.links x.index.toNat).kind)=1))else false))
 else
 bif (decide (x.deed=4))then
 some (bif (decide (0≤x.index))then(decide (x.index<p.buses))else false)
 else
 bif (decide (x.deed=7))then
 bif (decide (x.deed=7))then
 some (bif (decide (0≤x.index))then(decide (x.index<(p.sources.length:Int)))else false)
 else
 bg (gB [((bif (decide (0≤x.index))then(decide (x.index<0))else false),true)]=true→(0:Int)≤x.index∧x.index<(p.links.length:Int)) (
 some (bif (bif (decide (0≤x.index))then(decide (x.index<0))else false)then(!decide (((at' p.links x.index.toNat).kind)=1))else false))
 else
 bif (decide (x.deed=8))then
 some (bif (decide (0≤x.index))then(decide (x.index<(p.sources.length:Int)))else false)
 else
 bg (gB [((bif (decide (0≤x.index))then(decide (x.index<0))else false),true)]=true→(0:Int)≤x.index∧x.index<(p.links.length:Int)) (
 some (bif (bif (decide (0≤x.index))then(decide (x.index<0))else false)then(!decide (((at' p.links x.index.toNat).kind)=1))else false))
 else
 bif (decide (x.deed=2))then
 bif (decide (x.deed=2))then
 bg (gB [((bif (decide (0≤x.index))then(decide (x.index<(p.links.length:Int)))else false),true)]=true→(0:Int)≤x.index∧x.index<(p.links.length:Int)) (
 some (bif (bif (decide (0≤x.index))then(decide (x.index<(p.links.length:Int)))else false)then(!decide (((at' p.links x.index.toNat).kind)=1))else false))
 else
 bif (decide (x.deed=3))then
 bif (decide (x.deed=3))then
 some (bif (decide (0≤x.index))then(decide (x.index<p.buses))else false)
 else
 bif (decide (x.deed=7))then
 bif (decide (x.deed=7))then
 some (bif (decide (0≤x.index))then(decide (x.index<(p.sources.length:Int)))else false)
 else
 bg (gB [((bif (decide (0≤x.index))then(decide (x.index<0))else false),true)]=true→(0:Int)≤x.index∧x.index<(p.links.length:Int)) (
 some (bif (bif (decide (0≤x.index))then(decide (x.index<0))else false)then(!decide (((at' p.links x.index.toNat).kind)=1))else false))
 else
 bif (decide (x.deed=8))then
 some (bif (decide (0≤x.index))then(decide (x.index<(p.sources.length:Int)))else false)
 else
 bg (gB [((bif (decide (0≤x.index))then(decide (x.index<0))else false),true)]=true→(0:Int)≤x.index∧x.index<(p.links.length:Int)) (
 some (bif (bif (decide (0≤x.index))then(decide (x.index<0))else false)then(!decide (((at' p.links x.index.toNat).kind)=1))else false))
 else
 bif (decide (x.deed=4))then
 some (bif (decide (0≤x.index))then(decide (x.index<p.buses))else false)
 else
 bif (decide (x.deed=7))then
 bif (decide (x.deed=7))then
 some (bif (decide (0≤x.index))then(decide (x.index<(p.sources.length:Int)))else false)
 else
 bg (gB [((bif (decide (0≤x.index))then(decide (x.index<0))else false),true)]=true→(0:Int)≤x.index∧x.index<(p.links.length:Int)) (
 some (bif (bif (decide (0≤x.index))then(decide (x.index<0))else false)then(!decide (((at' p.links x.index.toNat).kind)=1))else false))
 else
 bif (decide (x.deed=8))then
 some (bif (decide (0≤x.index))then(decide (x.index<(p.sources.length:Int)))else false)
 else
 bg (gB [((bif (decide (0≤x.index))then(decide (x.index<0))else false),true)]=true→(0:Int)≤x.index∧x.index<(p.links.length:Int)) (
 some (bif (bif (decide (0≤x.index))then(decide (x.index<0))else false)then(!decide (((at' p.links x.index.toNat).kind)=1))else false))
 else
 bif (decide (x.deed=5))then
 bif (decide (x.deed=5))then
 bg (gB [((bif (decide (0≤x.index))then(decide (x.index<(p.links.length:Int)))else false),true)]=true→(0:Int)≤x.index∧x.index<(p.links.length:Int)) (
 some (bif (bif (decide (0≤x.index))then(decide (x.index<(p.links.length:Int)))else false)then(!decide (((at' p.links x.index.toNat).kind)=1))else false))
 else
 bif (decide (x.deed=3))then
 bif (decide (x.deed=3))then
 some (bif (decide (0≤x.index))then(decide (x.index<p.buses))else false)
 else
 bif (decide (x.deed=7))then
 bif (decide (x.deed=7))then
 some (bif (decide (0≤x.index))then(decide (x.index<(p.sources.length:Int)))else false)
 else
 bg (gB [((bif (decide (0≤x.index))then(decide (x.index<0))else false),true)]=true→(0:Int)≤x.index∧x.index<(p.links.length:Int)) (
 some (bif (bif (decide (0≤x.index))then(decide (x.index<0))else false)then(!decide (((at' p.links x.index.toNat).kind)=1))else false))
 else
 bif (decide (x.deed=8))then
 some (bif (decide (0≤x.index))then(decide (x.index<(p.sources.length:Int)))else false)
 else
 bg (gB [((bif (decide (0≤x.index))then(decide (x.index<0))else false),true)]=true→(0:Int)≤x.index∧x.index<(p.links.length:Int)) (
 some (bif (bif (decide (0≤x.index))then(decide (x.index<0))else false)then(!decide (((at' p.links x.index.toNat).kind)=1))else false))
 else
 bif (decide (x.deed=4))then
 some (bif (decide (0≤x.index))then(decide (x.index<p.buses))else false)
 else
 bif (decide (x.deed=7))then
 bif (decide (x.deed=7))then
 some (bif (decide (0≤x.index))then(decide (x.index<(p.sources.length:Int)))else false)
 else
 bg (gB [((bif (decide (0≤x.index))then(decide (x.index<0))else false),true)]=true→(0:Int)≤x.index∧x.index<(p.links.length:Int)) (
 some (bif (bif (decide (0≤x.index))then(decide (x.index<0))else false)then(!decide (((at' p.links x.index.toNat).kind)=1))else false))
 else
 bif (decide (x.deed=8))then
 some (bif (decide (0≤x.index))then(decide (x.index<(p.sources.length:Int)))else false)
 else
 bg (gB [((bif (decide (0≤x.index))then(decide (x.index<0))else false),true)]=true→(0:Int)≤x.index∧x.index<(p.links.length:Int)) (
 some (bif (bif (decide (0≤x.index))then(decide (x.index<0))else false)then(!decide (((at' p.links x.index.toNat).kind)=1))else false))
 else
 bif (decide (x.deed=6))then
 bg (gB [((bif (decide (0≤x.index))then(decide (x.index<(p.links.length:Int)))else false),true)]=true→(0:Int)≤x.index∧x.index<(p.links.length:Int)) (
 some (bif (bif (decide (0≤x.index))then(decide (x.index<(p.links.length:Int)))else false)then(!decide (((at' p.links x.index.toNat).kind)=1))else false))
 else
 bif (decide (x.deed=3))then
 bif (decide (x.deed=3))then
 some (bif (decide (0≤x.index))then(decide (x.index<p.buses))else false)
 else
 bif (decide (x.deed=7))then
 bif (decide (x.deed=7))then
 some (bif (decide (0≤x.index))then(decide (x.index<(p.sources.length:Int)))else false)
 else
 bg (gB [((bif (decide (0≤x.index))then(decide (x.index<0))else false),true)]=true→(0:Int)≤x.index∧x.index<(p.links.length:Int)) (
 some (bif (bif (decide (0≤x.index))then(decide (x.index<0))else false)then(!decide (((at' p.links x.index.toNat).kind)=1))else false))
 else
 bif (decide (x.deed=8))then
 some (bif (decide (0≤x.index))then(decide (x.index<(p.sources.length:Int)))else false)
 else
 bg (gB [((bif (decide (0≤x.index))then(decide (x.index<0))else false),true)]=true→(0:Int)≤x.index∧x.index<(p.links.length:Int)) (
 some (bif (bif (decide (0≤x.index))then(decide (x.index<0))else false)then(!decide (((at' p.links x.index.toNat).kind)=1))else false))
 else
 bif (decide (x.deed=4))then
 some (bif (decide (0≤x.index))then(decide (x.index<p.buses))else false)
 else
 bif (decide (x.deed=7))then
 bif (decide (x.deed=7))then
 some (bif (decide (0≤x.index))then(decide (x.index<(p.sources.length:Int)))else false)
 else
 bg (gB [((bif (decide (0≤x.index))then(decide (x.index<0))else false),true)]=true→(0:Int)≤x.index∧x.index<(p.links.length:Int)) (
 some (bif (bif (decide (0≤x.index))then(decide (x.index<0))else false)then(!decide (((at' p.links x.index.toNat).kind)=1))else false))
 else
 bif (decide (x.deed=8))then
 some (bif (decide (0≤x.index))then(decide (x.index<(p.sources.length:Int)))else false)
 else
 bg (gB [((bif (decide (0≤x.index))then(decide (x.index<0))else false),true)]=true→(0:Int)≤x.index∧x.index<(p.links.length:Int)) (
 some (bif (bif (decide (0≤x.index))then(decide (x.index<0))else false)then(!decide (((at' p.links x.index.toNat).kind)=1))else false))
def mV (x:aj) (x1:Int) (x11:(List Source)) (x12:(List Link)) (x13:(List aL)):Option Bool:=
 (lH (⟨x1,x11,x12,x13⟩:ay) x).bind fun r_=>
 some (!r_)
def jh (s_:(List aj)) (f_:Int) (f_1:(List Source)) (f_2:(List Link)) (f_3:(List aL)):Int→Option (dh Int (Ex Unit Int)):=
 fun t8=>
 bif (decide (t8<(s_.length:Int)))then
 (mV (at' s_ t8.toNat) f_ f_1 f_2 f_3).bind fun r_=>
 bg ((0:Int)≤t8∧t8<(s_.length:Int)) (
 bif r_ then
 some (.done (.ret t8))
 else
 some (.next (IntKind.wrap .i64 (t8+1))))
 else
 some (.done (.brk ()))
def kG (s_:(List aj)) (f_:Int) (f_1:(List Source)) (f_2:(List Link)) (f_3:(List aL)):Option Int:=
 Option.bind (aV (jh s_ f_ f_1 f_2 f_3) FUEL (0)) fun o=>match o with
 | .ret v=>some v
 | .brk _=>
 some (-1)
def gu (s_:(List aj)) (f_:Int) (f_1:(List Source)) (f_2:(List Link)) (f_3:(List aL)):Option Bool:=
 (kG s_ f_ f_1 f_2 f_3).bind fun r_=>
 some (decide (0≤r_))
def jF (l:(List aj)) (x1:Int) (x11:(List Source)) (x12:(List Link)) (x13:(List aL)):Option Bool:=
 (bif gB [((decide ((l.length:Int)≤24)),true)]then gu l x1 x11 x12 x13 else some default).bind fun r_=>
 some (bif (decide ((l.length:Int)≤24))then(!r_)else false)
def oK (p:ay) (t:Task):Option Bool:=
 (jE t.fed (p.racks.length:Int)).bind fun r_=>
 (bif gB [(r_,true)]then jE t.crew p.buses else some default).bind fun r_1=>
 (bif gB [((bif r_ then r_1 else false),true)]then jF t.allowed p.buses p.sources p.links p.racks else some default).bind fun r_2=>
 (bif gB [((bif (bif r_ then r_1 else false)then r_2 else false),true)]then jF t.goal p.buses p.sources p.links p.racks else some default).bind fun r_3=>
 some (bif (bif (bif r_ then r_1 else false)then r_2 else false)then r_3 else false)
def jZ (p:ay) (s_:State):Option (Int × (List Source) × (List Link) × (List aL) × (List Bool) × (List Bool) × (List Bool) × (List Bool) × (List Bool) × (List Bool) × (List Bool)):=
 some (p.buses,p.sources,p.links,p.racks,s_.closed,s_.locked,s_.badLink,s_.on_,s_.badSource,s_.earthed,s_.badBus)
def eH (g:aZ):Int→Option (dh Int (Ex Unit Int)):=
 fun x1=>
 bif (!((bB aP x1 g.head).isSome))then
 some (.done (.ret x1))
 else
 some (.next ((bB aP x1 g.head).getD 0))
def bZ (g:aZ) (x:Int):Option Int:=
 Option.bind (aV (eH g) FUEL (x)) fun o=>match o with
 | .ret v=>some v
 | .brk _=>none
def jw (g:aZ) (a:Int) (b:Int):Option (List (Int × Int)):=
 (bZ g a).bind fun r_=>
 (bZ g b).bind fun r_1=>
 bif (!decide (r_=r_1))then
 some (eB aP r_ r_1 g.head)
 else
 some g.head
def kZ (x22:Int) (x221:Int) (x222:Int) (x223:Int) (x224:Int) (x225:(List dO)) (o_:aZ):Option aZ:=
 (jw o_ x22 x221).bind fun r_=>
 some (⟨r_⟩:aZ)
def dH (x12:(List Link)) (x2:(List Bool)) (x22:(List Bool)) (x26:(List Bool)):((List (Int × Int)) × Int)→Option (dh ((List (Int × Int)) × Int) (Ex (List (Int × Int)) aZ)):=
 fun zz=>match zz with
 |(o0,t9)=>
 bif (decide (t9<(x12.length:Int)))then
 bg ((0:Int)≤t9∧t9<(x12.length:Int)) (
 bif (bif (bif (bif (at' x2 t9.toNat)then(!(at' x22 t9.toNat))else false)then(!(at' x26 (((at' x12 t9.toNat).a).toNat)))else false)then(!(at' x26 (((at' x12 t9.toNat).b).toNat)))else false)then
 (kZ ((at' x12 t9.toNat).a) ((at' x12 t9.toNat).b) ((at' x12 t9.toNat).kind) ((at' x12 t9.toNat).most) ((at' x12 t9.toNat).ohm) ((at' x12 t9.toNat).trip) (⟨o0⟩:aZ)).bind fun r_=>
 bg (((0:Int)≤t9∧t9<(x2.length:Int))∧(gB [((at' x2 t9.toNat),true)]=true→(0:Int)≤t9∧t9<(x22.length:Int))∧(gB [((bif (at' x2 t9.toNat)then(!(at' x22 t9.toNat))else false),true)]=true→(0:Int)≤(at' x12 t9.toNat).a∧(at' x12 t9.toNat).a<(x26.length:Int))∧(gB [((bif (bif (at' x2 t9.toNat)then(!(at' x22 t9.toNat))else false)then(!(at' x26 (((at' x12 t9.toNat).a).toNat)))else false),true)]=true→(0:Int)≤(at' x12 t9.toNat).b∧(at' x12 t9.toNat).b<(x26.length:Int))) (
 some (.next (r_.head,(IntKind.wrap .i64 (t9+1)))))
 else
 bg (((0:Int)≤t9∧t9<(x2.length:Int))∧(gB [((at' x2 t9.toNat),true)]=true→(0:Int)≤t9∧t9<(x22.length:Int))∧(gB [((bif (at' x2 t9.toNat)then(!(at' x22 t9.toNat))else false),true)]=true→(0:Int)≤(at' x12 t9.toNat).a∧(at' x12 t9.toNat).a<(x26.length:Int))∧(gB [((bif (bif (at' x2 t9.toNat)then(!(at' x22 t9.toNat))else false)then(!(at' x26 (((at' x12 t9.toNat).a).toNat)))else false),true)]=true→(0:Int)≤(at' x12 t9.toNat).b∧(at' x12 t9.toNat).b<(x26.length:Int))) (
 some (.next (o0,(IntKind.wrap .i64 (t9+1))))))
 else
 some (.done (.brk o0))
def lD (x1:Int) (x11:(List Source)) (x12:(List Link)) (x13:(List aL)) (x2:(List Bool)) (x21:(List Bool)) (x22:(List Bool)) (x23:(List Bool)) (x24:(List Bool)) (x25:(List Bool)) (x26:(List Bool)) (o_:aZ):Option aZ:=
 Option.bind (aV (dH x12 x2 x22 x26) FUEL (o_.head,0)) fun o=>match o with
 | .ret v=>some v
 | .brk o01=>
 some (⟨o01⟩:aZ)
def bK (p:ay) (s_:State) (r_1:aZ):((List aH) × (List (Int × Int)) × Int)→Option (dh ((List aH) × (List (Int × Int)) × Int) (Ex ((List aH) × (List (Int × Int))) (List aH))):=
 fun zz=>match zz with
 |(out,at_,t32)=>
 bif (decide (t32<p.buses))then
 bg ((0:Int)≤t32∧t32<(s_.badBus.length:Int)) (
 bif (at' s_.badBus t32.toNat)then
 some (.next (out,at_,(IntKind.wrap .i64 (t32+1))))
 else
 (bZ r_1 t32).bind fun r_2=>
 bif (!((bB aP r_2 at_).isSome))then
 bg (((out.length+[(⟨([]:List Int),([]:List Int)⟩:aH)].length)*48≤140737488355328)∧(out.length+[(⟨([]:List Int),([]:List Int)⟩:aH)].length≤4611686018427387904)) (
 bg (((0:Int)≤((bB aP r_2 (eB aP r_2 (out.length:Int) at_)).getD 0)∧((bB aP r_2 (eB aP r_2 (out.length:Int) at_)).getD 0)<((out++[(⟨([]:List Int),([]:List Int)⟩:aH)]).length:Int))∧((((at' (out++[(⟨([]:List Int),([]:List Int)⟩:aH)]) (((bB aP r_2 (eB aP r_2 (out.length:Int) at_)).getD 0).toNat)).buses).length+[t32].length)*8≤140737488355328)∧(((at' (out++[(⟨([]:List Int),([]:List Int)⟩:aH)]) (((bB aP r_2 (eB aP r_2 (out.length:Int) at_)).getD 0).toNat)).buses).length+[t32].length≤4611686018427387904)) (
 some (.next (((out++[(⟨([]:List Int),([]:List Int)⟩:aH)]).set (((bB aP r_2 (eB aP r_2 (out.length:Int) at_)).getD 0).toNat) (⟨(((at' (out++[(⟨([]:List Int),([]:List Int)⟩:aH)]) (((bB aP r_2 (eB aP r_2 (out.length:Int) at_)).getD 0).toNat)).buses)++[t32]),(at' (out++[(⟨([]:List Int),([]:List Int)⟩:aH)]) (((bB aP r_2 (eB aP r_2 (out.length:Int) at_)).getD 0).toNat)).sources⟩:aH)),(eB aP r_2 (out.length:Int) at_),(IntKind.wrap .i64 (t32+1))))))
 else
 bg (((0:Int)≤((bB aP r_2 at_).getD 0)∧((bB aP r_2 at_).getD 0)<(out.length:Int))∧((((at' out (((bB aP r_2 at_).getD 0).toNat)).buses).length+[t32].length)*8≤140737488355328)∧(((at' out (((bB aP r_2 at_).getD 0).toNat)).buses).length+[t32].length≤4611686018427387904)) (
 some (.next ((out.set (((bB aP r_2 at_).getD 0).toNat) (⟨(((at' out (((bB aP r_2 at_).getD 0).toNat)).buses)++[t32]),(at' out (((bB aP r_2 at_).getD 0).toNat)).sources⟩:aH)),at_,(IntKind.wrap .i64 (t32+1))))))
 else
 some (.done (.brk (out,at_)))
def bJ (p:ay) (s_:State) (r_1:aZ) (at_1:(List (Int × Int))):((List aH) × Int)→Option (dh ((List aH) × Int) (Ex (List aH) (List aH))):=
 fun zz=>match zz with
 |(out2,t78)=>
 bif (decide (t78<(p.sources.length:Int)))then
 bg ((0:Int)≤t78∧t78<(p.sources.length:Int)) (
 bg (((0:Int)≤t78∧t78<(s_.on_.length:Int))∧(gB [((at' s_.on_ t78.toNat),true)]=true→(0:Int)≤t78∧t78<(s_.badSource.length:Int))∧(gB [((bif (at' s_.on_ t78.toNat)then(!(at' s_.badSource t78.toNat))else false),true)]=true→(0:Int)≤(at' p.sources t78.toNat).bus∧(at' p.sources t78.toNat).bus<(s_.badBus.length:Int))) (
 bif (bif (bif (at' s_.on_ t78.toNat)then(!(at' s_.badSource t78.toNat))else false)then(!(at' s_.badBus (((at' p.sources t78.toNat).bus).toNat)))else false)then
 (bZ r_1 ((at' p.sources t78.toNat).bus)).bind fun r_3=>
 bg (((0:Int)≤((bB aP r_3 at_1).getD 0)∧((bB aP r_3 at_1).getD 0)<(out2.length:Int))∧((((at' out2 (((bB aP r_3 at_1).getD 0).toNat)).sources).length+[t78].length)*8≤140737488355328)∧(((at' out2 (((bB aP r_3 at_1).getD 0).toNat)).sources).length+[t78].length≤4611686018427387904)) (
 some (.next ((out2.set (((bB aP r_3 at_1).getD 0).toNat) (⟨(at' out2 (((bB aP r_3 at_1).getD 0).toNat)).buses,(((at' out2 (((bB aP r_3 at_1).getD 0).toNat)).sources)++[t78])⟩:aH)),(IntKind.wrap .i64 (t78+1)))))
 else
 some (.next (out2,(IntKind.wrap .i64 (t78+1))))))
 else
 some (.done (.brk out2))
def eX (p:ay) (s_:State):Option (List aH):=
 (jZ p s_).bind fun r_=>
 (lD r_.1 r_.2.1 r_.2.2.1 r_.2.2.2.1 r_.2.2.2.2.1 r_.2.2.2.2.2.1 r_.2.2.2.2.2.2.1 r_.2.2.2.2.2.2.2.1 r_.2.2.2.2.2.2.2.2.1 r_.2.2.2.2.2.2.2.2.2.1 r_.2.2.2.2.2.2.2.2.2.2 (⟨([]:(List (Int × Int)))⟩:aZ)).bind fun r_1=>
 Option.bind (aV (bK p s_ r_1) FUEL (([]:List aH),([]:(List (Int × Int))),0)) fun o=>match o with
 | .ret v=>some v
 | .brk (out1,at_1)=>
 Option.bind (aV (bJ p s_ r_1 at_1) FUEL (out1,0)) fun o=>match o with
 | .ret v=>some v
 | .brk out3=>
 some out3
def kr (r_1:(List aH)) (t25:Int):((List Bool) × Int)→Option (dh ((List Bool) × Int) (Ex (List Bool) (dh ((List Bool) × Int) (Ex (List Bool) ((List Bool) × Int))))):=
 fun zz=>match zz with
 |(out2,t32)=>
 bif (decide (t32<(((at' r_1 t25.toNat).buses).length:Int)))then
 bg ((0:Int)≤t32∧t32<(((at' r_1 t25.toNat).buses).length:Int)) (
 bg ((0:Int)≤(at' ((at' r_1 t25.toNat).buses) t32.toNat)∧(at' ((at' r_1 t25.toNat).buses) t32.toNat)<(out2.length:Int)) (
 some (.next ((out2.set ((at' ((at' r_1 t25.toNat).buses) t32.toNat).toNat) (decide (0<(((at' r_1 t25.toNat).sources).length:Int)))),(IntKind.wrap .i64 (t32+1))))))
 else
 some (.done (.brk out2))
def j6 (r_1:(List aH)):((List Bool) × Int)→Option (dh ((List Bool) × Int) (Ex (List Bool) ((List Bool) × Int))):=
 fun zz=>match zz with
 |(out,t25)=>
 bif (decide (t25<(r_1.length:Int)))then
 bg ((0:Int)≤t25∧t25<(r_1.length:Int)) (
 Option.bind (aV (kr r_1 t25) FUEL (out,0)) fun o=>match o with
 | .ret v=>some v
 | .brk out3=>
 some (.next (out3,(IntKind.wrap .i64 (t25+1)))))
 else
 some (.done (.brk out))
def gN (p:ay) (s_:State):Option ((List Bool) × Int):=
 (cK p s_).bind fun r_=>
 bif (!decide (r_=0))then
 some (([]:List Bool),r_)
 else
 bg (((0:Int)≤p.buses)∧((1:Int)*p.buses≤281474976710656)∧((p.buses:Int)≤9223372036854775807)) (
 (eX p s_).bind fun r_1=>
 Option.bind (aV (j6 r_1) FUEL ((List.replicate p.buses.toNat (false:Bool)),0)) fun o=>match o with
 | .ret v=>some v
 | .brk out1=>
 some (out1,0))
def jD (p:ay) (r_:((List Bool) × Int)):((List ax) × Int)→Option (dh ((List ax) × Int) (Ex (List ax) ((List ax) × Int))):=
 fun zz=>match zz with
 |(out,t26)=>
 bif (decide (t26<(p.racks.length:Int)))then
 bg ((0:Int)≤t26∧t26<(p.racks.length:Int)) (
 bg (gB [((decide (0≤(((at' p.racks t26.toNat).feeds).e0))),true)]=true→(0:Int)≤((at' p.racks t26.toNat).feeds).e0∧((at' p.racks t26.toNat).feeds).e0<(r_.1.length:Int)) (
 bg (gB [((decide (0≤(((at' p.racks t26.toNat).feeds).e1))),true)]=true→(0:Int)≤((at' p.racks t26.toNat).feeds).e1∧((at' p.racks t26.toNat).feeds).e1<(r_.1.length:Int)) (
 bg (((out.length+[(⟨(bif (decide (0≤(((at' p.racks t26.toNat).feeds).e0)))then(at' r_.1 ((((at' p.racks t26.toNat).feeds).e0).toNat))else false),(bif (decide (0≤(((at' p.racks t26.toNat).feeds).e1)))then(at' r_.1 ((((at' p.racks t26.toNat).feeds).e1).toNat))else false)⟩:ax)].length)*2≤140737488355328)∧(out.length+[(⟨(bif (decide (0≤(((at' p.racks t26.toNat).feeds).e0)))then(at' r_.1 ((((at' p.racks t26.toNat).feeds).e0).toNat))else false),(bif (decide (0≤(((at' p.racks t26.toNat).feeds).e1)))then(at' r_.1 ((((at' p.racks t26.toNat).feeds).e1).toNat))else false)⟩:ax)].length≤4611686018427387904)) (
 some (.next ((out++[(⟨(bif (decide (0≤(((at' p.racks t26.toNat).feeds).e0)))then(at' r_.1 ((((at' p.racks t26.toNat).feeds).e0).toNat))else false),(bif (decide (0≤(((at' p.racks t26.toNat).feeds).e1)))then(at' r_.1 ((((at' p.racks t26.toNat).feeds).e1).toNat))else false)⟩:ax)]),(IntKind.wrap .i64 (t26+1))))))))
 else
 some (.done (.brk out))
def jL (p:ay) (s_:State):Option ((List ax) × Int):=
 (gN p s_).bind fun r_=>
 bif (!decide (r_.2=0))then
 some (([]:List ax),r_.2)
 else
 Option.bind (aV (jD p r_) FUEL (([]:List ax),0)) fun o=>match o with
 | .ret v=>some v
 | .brk out1=>
 some (out1,0)
def bH (x y:aN):Int:=if x.e0<y.e0 then -1 else if y.e0<x.e0 then 1 else if x.e1<y.e1 then -1 else if y.e1<x.e1 then 1 else 0
def iN (s:(List aN)):Option (List aN):=match s with
 |[]=>some []
 |x::xs=>bif decide ((x::xs).length<4611686018427387904)then some ((x::xs).mergeSort fun x y=> !decide (bH y x<0))else none
def jS (p:ay) (r_1:(List aH)) (t24:Int) (t31:Int):((List aN) × Int)→Option (dh ((List aN) × Int) (Ex (List aN) (dh ((List aN) × Int) (Ex (List aN) (dh ((List aN) × Int) (Ex (List aN) ((List aN) × Int))))))):=
 fun zz=>match zz with
 |(out4,t42)=>
 bif (decide (t42<(((((at' r_1 t24.toNat).sources).length - ((IntKind.wrap .i64 (t31+1)).toNat)):Nat):Int)))then
 bg ((0:Int)≤t42∧t42<((((at' r_1 t24.toNat).sources).drop ((IntKind.wrap .i64 (t31+1)).toNat)).length:Int)) (
 bg (((0:Int)≤(at' ((at' r_1 t24.toNat).sources) t31.toNat)∧(at' ((at' r_1 t24.toNat).sources) t31.toNat)<(p.sources.length:Int))∧(gB [((decide (((at' p.sources ((at' ((at' r_1 t24.toNat).sources) t31.toNat).toNat)).sync)=0)),false)]=true→(0:Int)≤(at' ((at' r_1 t24.toNat).sources) t31.toNat)∧(at' ((at' r_1 t24.toNat).sources) t31.toNat)<(p.sources.length:Int))∧(gB [((decide (((at' p.sources ((at' ((at' r_1 t24.toNat).sources) t31.toNat).toNat)).sync)=0)),false)]=true→(0:Int)≤(at' (((at' r_1 t24.toNat).sources).drop ((IntKind.wrap .i64 (t31+1)).toNat)) t42.toNat)∧(at' (((at' r_1 t24.toNat).sources).drop ((IntKind.wrap .i64 (t31+1)).toNat)) t42.toNat)<(p.sources.length:Int))) (
 bif (bif (decide (((at' p.sources ((at' ((at' r_1 t24.toNat).sources) t31.toNat).toNat)).sync)=0))then true else(!decide (((at' p.sources ((at' ((at' r_1 t24.toNat).sources) t31.toNat).toNat)).sync)=((at' p.sources ((at' (((at' r_1 t24.toNat).sources).drop ((IntKind.wrap .i64 (t31+1)).toNat)) t42.toNat).toNat)).sync))))then
 bg (((out4.length+[(⟨(at' ((at' r_1 t24.toNat).sources) t31.toNat),(at' (((at' r_1 t24.toNat).sources).drop ((IntKind.wrap .i64 (t31+1)).toNat)) t42.toNat)⟩:aN)].length)*16≤140737488355328)∧(out4.length+[(⟨(at' ((at' r_1 t24.toNat).sources) t31.toNat),(at' (((at' r_1 t24.toNat).sources).drop ((IntKind.wrap .i64 (t31+1)).toNat)) t42.toNat)⟩:aN)].length≤4611686018427387904)) (
 some (.next ((out4++[(⟨(at' ((at' r_1 t24.toNat).sources) t31.toNat),(at' (((at' r_1 t24.toNat).sources).drop ((IntKind.wrap .i64 (t31+1)).toNat)) t42.toNat)⟩:aN)]),(IntKind.wrap .i64 (t42+1)))))
 else
 some (.next (out4,(IntKind.wrap .i64 (t42+1))))))
 else
 some (.done (.brk out4))
def jT (p:ay) (r_1:(List aH)) (t24:Int):((List aN) × Int)→Option (dh ((List aN) × Int) (Ex (List aN) (dh ((List aN) × Int) (Ex (List aN) ((List aN) × Int))))):=
 fun zz=>match zz with
 |(out2,t31)=>
 bif (decide (t31<(((at' r_1 t24.toNat).sources).length:Int)))then
 bg ((0:Int)≤t31∧t31<(((at' r_1 t24.toNat).sources).length:Int)) (
 bg ((0:Int)≤(IntKind.wrap .i64 (t31+1))∧(IntKind.wrap .i64 (t31+1))≤(((at' r_1 t24.toNat).sources).length:Int)) (
 Option.bind (aV (jS p r_1 t24 t31) FUEL (out2,0)) fun o=>match o with
 | .ret v=>some v
 | .brk out5=>
 some (.next (out5,(IntKind.wrap .i64 (t31+1))))))
 else
 some (.done (.brk out2))
def ic (p:ay) (r_1:(List aH)):((List aN) × Int)→Option (dh ((List aN) × Int) (Ex (List aN) ((List aN) × Int))):=
 fun zz=>match zz with
 |(out,t24)=>
 bif (decide (t24<(r_1.length:Int)))then
 bg ((0:Int)≤t24∧t24<(r_1.length:Int)) (
 Option.bind (aV (jT p r_1 t24) FUEL (out,0)) fun o=>match o with
 | .ret v=>some v
 | .brk out3=>
 some (.next (out3,(IntKind.wrap .i64 (t24+1)))))
 else
 some (.done (.brk out))
def mJ (p:ay) (s_:State):Option ((List aN) × Int):=
 (cK p s_).bind fun r_=>
 bif (!decide (r_=0))then
 some (([]:List aN),r_)
 else
 (eX p s_).bind fun r_1=>
 Option.bind (aV (ic p r_1) FUEL (([]:List aN),0)) fun o=>match o with
 | .ret v=>some v
 | .brk out1=>
 (iN out1).bind fun r_2=>
 bg (out1.length=r_2.length) (
 some (r_2,0))
def qp (r_:Int) (x1:(List ax)):Option Bool:=
 bg (((0:Int)≤r_∧r_<(x1.length:Int))∧(gB [((!((at' x1 r_.toNat).e0)),true)]=true→(0:Int)≤r_∧r_<(x1.length:Int))) (
 some (bif (!((at' x1 r_.toNat).e0))then(!((at' x1 r_.toNat).e1))else false))
def gQ (s_:(List Int)) (f_:(List ax)):Int→Option (dh Int (Ex Unit Int)):=
 fun t8=>
 bif (decide (t8<(s_.length:Int)))then
 (qp (at' s_ t8.toNat) f_).bind fun r_=>
 bg ((0:Int)≤t8∧t8<(s_.length:Int)) (
 bif r_ then
 some (.done (.ret t8))
 else
 some (.next (IntKind.wrap .i64 (t8+1))))
 else
 some (.done (.brk ()))
def jb (s_:(List Int)) (f_:(List ax)):Option Int:=
 Option.bind (aV (gQ s_ f_) FUEL (0)) fun o=>match o with
 | .ret v=>some v
 | .brk _=>
 some (-1)
def eU (s_:(List Int)) (f_:(List ax)):Option Bool:=
 (jb s_ f_).bind fun r_=>
 some (decide (0≤r_))
def om (s_:(List Int)) (v_:Int):Int→Option (dh Int (Ex Unit Int)):=
 fun t8=>
 bif (decide (t8<(s_.length:Int)))then
 bg ((0:Int)≤t8∧t8<(s_.length:Int)) (
 bif (decide (v_=(at' s_ t8.toNat)))then
 some (.done (.ret t8))
 else
 some (.next (IntKind.wrap .i64 (t8+1))))
 else
 some (.done (.brk ()))
def rC (s_:(List Int)) (v_:Int):Option Int:=
 Option.bind (aV (om s_ v_) FUEL (0)) fun o=>match o with
 | .ret v=>some v
 | .brk _=>
 some (-1)
def iK (s_:(List Int)) (v_:Int):Option Bool:=
 (rC s_ v_).bind fun r_=>
 some (decide (0≤r_))
def qw (p:ay) (s_:State) (b:Int):Int→Option (dh Int (Ex Unit Bool)):=
 fun t22=>
 bif (decide (t22<(p.sources.length:Int)))then
 bg ((0:Int)≤t22∧t22<(p.sources.length:Int)) (
 bg (gB [((decide (((at' p.sources t22.toNat).bus)=b)),true)]=true→(0:Int)≤t22∧t22<(s_.on_.length:Int)) (
 bif (bif (decide (((at' p.sources t22.toNat).bus)=b))then(at' s_.on_ t22.toNat)else false)then
 some (.done (.ret false))
 else
 some (.next (IntKind.wrap .i64 (t22+1)))))
 else
 some (.done (.brk ()))
def qi (p:ay) (s_:State) (t:Task) (b:Int):Int→Option (dh Int (Ex Unit Bool)):=
 fun t42=>
 bif (decide (t42<(p.links.length:Int)))then
 bg ((0:Int)≤t42∧t42<(p.links.length:Int)) (
 (bif gB [((bif (!decide (((at' p.links t42.toNat).a)=b))then(!decide (((at' p.links t42.toNat).b)=b))else false),false)]then iK t.crew (IntKind.wrap .i64 ((IntKind.wrap .i64 (((at' p.links t42.toNat).a)+((at' p.links t42.toNat).b))) - b))else some default).bind fun r_=>
 bif (bif (bif (!decide (((at' p.links t42.toNat).a)=b))then(!decide (((at' p.links t42.toNat).b)=b))else false)then true else r_)then
 some (.next (IntKind.wrap .i64 (t42+1)))
 else
 bg ((gB [((decide (((at' p.links t42.toNat).kind)=1)),false)]=true→(0:Int)≤t42∧t42<(s_.closed.length:Int))∧(gB [((bif (decide (((at' p.links t42.toNat).kind)=1))then true else(at' s_.closed t42.toNat)),false)]=true→(0:Int)≤t42∧t42<(s_.locked.length:Int))) (
 bif (bif (bif (decide (((at' p.links t42.toNat).kind)=1))then true else(at' s_.closed t42.toNat))then true else(!(at' s_.locked t42.toNat)))then
 some (.done (.ret false))
 else
 some (.next (IntKind.wrap .i64 (t42+1)))))
 else
 some (.done (.brk ()))
def qN (p:ay) (s_:State) (t:Task) (b:Int):Option Bool:=
 bg ((0:Int)≤b∧b<(s_.earthed.length:Int)) (
 bif (!(at' s_.earthed b.toNat))then
 some false
 else
 Option.bind (aV (qw p s_ b) FUEL (0)) fun o=>match o with
 | .ret v=>some v
 | .brk _=>
 Option.bind (aV (qi p s_ t b) FUEL (0)) fun o=>match o with
 | .ret v=>some v
 | .brk _=>
 some true)
def qx (b:Int) (x1:Int) (x11:(List Source)) (x12:(List Link)) (x13:(List aL)) (x2:(List Bool)) (x21:(List Bool)) (x22:(List Bool)) (x23:(List Bool)) (x24:(List Bool)) (x25:(List Bool)) (x26:(List Bool)) (x3:(List Int)) (x31:(List Int)) (x32:(List aj)) (x33:(List aj)):Option Bool:=
 (qN (⟨x1,x11,x12,x13⟩:ay) (⟨x2,x21,x22,x23,x24,x25,x26⟩:State) (⟨x3,x31,x32,x33⟩:Task) b).bind fun r_=>
 some (!r_)
def gM (s_:(List Int)) (f_:Int) (f_1:(List Source)) (f_2:(List Link)) (f_3:(List aL)) (f_4:(List Bool)) (f_5:(List Bool)) (f_6:(List Bool)) (f_7:(List Bool)) (f_8:(List Bool)) (f_9:(List Bool)) (f_10:(List Bool)) (f_11:(List Int)) (f_12:(List Int)) (f_13:(List aj)) (f_14:(List aj)):Int→Option (dh Int (Ex Unit Int)):=
 fun t8=>
 bif (decide (t8<(s_.length:Int)))then
 (qx (at' s_ t8.toNat) f_ f_1 f_2 f_3 f_4 f_5 f_6 f_7 f_8 f_9 f_10 f_11 f_12 f_13 f_14).bind fun r_=>
 bg ((0:Int)≤t8∧t8<(s_.length:Int)) (
 bif r_ then
 some (.done (.ret t8))
 else
 some (.next (IntKind.wrap .i64 (t8+1))))
 else
 some (.done (.brk ()))
def jk (s_:(List Int)) (f_:Int) (f_1:(List Source)) (f_2:(List Link)) (f_3:(List aL)) (f_4:(List Bool)) (f_5:(List Bool)) (f_6:(List Bool)) (f_7:(List Bool)) (f_8:(List Bool)) (f_9:(List Bool)) (f_10:(List Bool)) (f_11:(List Int)) (f_12:(List Int)) (f_13:(List aj)) (f_14:(List aj)):Option Int:=
 Option.bind (aV (gM s_ f_ f_1 f_2 f_3 f_4 f_5 f_6 f_7 f_8 f_9 f_10 f_11 f_12 f_13 f_14) FUEL (0)) fun o=>match o with
 | .ret v=>some v
 | .brk _=>
 some (-1)
def eT (s_:(List Int)) (f_:Int) (f_1:(List Source)) (f_2:(List Link)) (f_3:(List aL)) (f_4:(List Bool)) (f_5:(List Bool)) (f_6:(List Bool)) (f_7:(List Bool)) (f_8:(List Bool)) (f_9:(List Bool)) (f_10:(List Bool)) (f_11:(List Int)) (f_12:(List Int)) (f_13:(List aj)) (f_14:(List aj)):Option Bool:=
 (jk s_ f_ f_1 f_2 f_3 f_4 f_5 f_6 f_7 f_8 f_9 f_10 f_11 f_12 f_13 f_14).bind fun r_=>
 some (decide (0≤r_))
def lQ (s_:State) (r_:((List Bool) × Int)):Int→Option (dh Int (Ex Unit Int)):=
 fun t23=>
 bif (decide (t23<(r_.1.length:Int)))then
 bg ((0:Int)≤t23∧t23<(r_.1.length:Int)) (
 bg (gB [((at' r_.1 t23.toNat),true)]=true→(0:Int)≤t23∧t23<(s_.earthed.length:Int)) (
 bif (bif (at' r_.1 t23.toNat)then(at' s_.earthed t23.toNat)else false)then
 some (.done (.ret 40))
 else
 some (.next (IntKind.wrap .i64 (t23+1)))))
 else
 some (.done (.brk ()))
def mH (p:ay) (s_:State) (t:Task):Option Int:=
 (gN p s_).bind fun r_=>
 Option.bind (aV (lQ s_ r_) FUEL (0)) fun o=>match o with
 | .ret v=>some v
 | .brk _=>
 (mJ p s_).bind fun r_1=>
 bif (decide (0<(r_1.1.length:Int)))then
 some 41
 else
 (jL p s_).bind fun r_2=>
 (eU t.fed r_2.1).bind fun r_3=>
 bif r_3 then
 some 42
 else
 (eT t.crew p.buses p.sources p.links p.racks s_.closed s_.locked s_.badLink s_.on_ s_.badSource s_.earthed s_.badBus t.fed t.crew t.allowed t.goal).bind fun r_4=>
 bif r_4 then
 some 45
 else
 some 0
def mD (p:ay) (s_:State) (t:Task):Option Int:=
 (cK p s_).bind fun r_=>
 bif (!decide (r_=0))then
 some r_
 else
 (oK p t).bind fun r_1=>
 bif (!r_1)then
 some 1
 else
 (mH p s_ t).bind fun r_2=>
 some r_2
def lu (s_:(List Bool)) (s_nn:Bool):Option (List Bool):=
 bif (!s_nn)then
 some ([]:List Bool)
 else
 bg (((([]:List Bool).length+s_.length)*1≤140737488355328)∧(([]:List Bool).length+s_.length≤4611686018427387904)) (
 some (([]:List Bool)++s_))
def ai (s:(List Bool)):Option (List Bool):=lu s true
def oL (s_:State):Option State:=
 bg ((0:Int)≤0∧0<(7:Int)) (
 (ai s_.closed).bind fun r_=>
 bg ((0:Int)≤1∧1<(7:Int)) (
 (ai s_.locked).bind fun r_1=>
 bg ((0:Int)≤2∧2<(7:Int)) (
 (ai s_.badLink).bind fun r_2=>
 bg ((0:Int)≤3∧3<(7:Int)) (
 (ai s_.on_).bind fun r_3=>
 bg ((0:Int)≤4∧4<(7:Int)) (
 (ai s_.badSource).bind fun r_4=>
 bg ((0:Int)≤5∧5<(7:Int)) (
 (ai s_.earthed).bind fun r_5=>
 bg ((0:Int)≤6∧6<(7:Int)) (
 (ai s_.badBus).bind fun r_6=>
 some (⟨r_,r_1,r_2,r_3,r_4,r_5,r_6⟩:State))))))))
def mG:Option Unit:=
 some ()
def jX (state:State):Option Unit:=
 some ()
def jR (state:State):Option Unit:=
 some ()
def jO (state:State):Option Unit:=
 some ()
def jP (state:State):Option Unit:=
 some ()
def lY (s_:State) (x:aj):Option State:=
 (mG).bind fun r_=>
 bif (aP x.deed 1)then
 bg ((0:Int)≤0∧0<(7:Int)) (
 (ai s_.closed).bind fun r_1=>
 bg ((0:Int)≤1∧1<(7:Int)) (
 (ai s_.locked).bind fun r_2=>
 bg ((0:Int)≤2∧2<(7:Int)) (
 (ai s_.badLink).bind fun r_3=>
 bg ((0:Int)≤3∧3<(7:Int)) (
 (ai s_.on_).bind fun r_4=>
 bg ((0:Int)≤4∧4<(7:Int)) (
 (ai s_.badSource).bind fun r_5=>
 bg ((0:Int)≤5∧5<(7:Int)) (
 (ai s_.earthed).bind fun r_6=>
 bg ((0:Int)≤6∧6<(7:Int)) (
 (ai s_.badBus).bind fun r_7=>
 (jX (⟨r_1,r_2,r_3,r_4,r_5,r_6,r_7⟩:State)).bind fun r_8=>
 bg ((0:Int)≤x.index∧x.index<(r_1.length:Int)) (
 some (⟨(r_1.set x.index.toNat false),r_2,r_3,r_4,r_5,r_6,r_7⟩:State)))))))))
 else
 bif (aP x.deed 2)then
 bg ((0:Int)≤0∧0<(7:Int)) (
 (ai s_.closed).bind fun r_9=>
 bg ((0:Int)≤1∧1<(7:Int)) (
 (ai s_.locked).bind fun r_10=>
 bg ((0:Int)≤2∧2<(7:Int)) (
 (ai s_.badLink).bind fun r_11=>
 bg ((0:Int)≤3∧3<(7:Int)) (
 (ai s_.on_).bind fun r_12=>
 bg ((0:Int)≤4∧4<(7:Int)) (
 (ai s_.badSource).bind fun r_13=>
 bg ((0:Int)≤5∧5<(7:Int)) (
 (ai s_.earthed).bind fun r_14=>
 bg ((0:Int)≤6∧6<(7:Int)) (
 (ai s_.badBus).bind fun r_15=>
 (jX (⟨r_9,r_10,r_11,r_12,r_13,r_14,r_15⟩:State)).bind fun r_16=>
 bg ((0:Int)≤x.index∧x.index<(r_9.length:Int)) (
 some (⟨(r_9.set x.index.toNat true),r_10,r_11,r_12,r_13,r_14,r_15⟩:State)))))))))
 else
 bif (aP x.deed 3)then
 bg ((0:Int)≤0∧0<(7:Int)) (
 (ai s_.closed).bind fun r_17=>
 bg ((0:Int)≤1∧1<(7:Int)) (
 (ai s_.locked).bind fun r_18=>
 bg ((0:Int)≤2∧2<(7:Int)) (
 (ai s_.badLink).bind fun r_19=>
 bg ((0:Int)≤3∧3<(7:Int)) (
 (ai s_.on_).bind fun r_20=>
 bg ((0:Int)≤4∧4<(7:Int)) (
 (ai s_.badSource).bind fun r_21=>
 bg ((0:Int)≤5∧5<(7:Int)) (
 (ai s_.earthed).bind fun r_22=>
 bg ((0:Int)≤6∧6<(7:Int)) (
 (ai s_.badBus).bind fun r_23=>
 (jR (⟨r_17,r_18,r_19,r_20,r_21,r_22,r_23⟩:State)).bind fun r_24=>
 bg ((0:Int)≤x.index∧x.index<(r_22.length:Int)) (
 some (⟨r_17,r_18,r_19,r_20,r_21,(r_22.set x.index.toNat true),r_23⟩:State)))))))))
 else
 bif (aP x.deed 4)then
 bg ((0:Int)≤0∧0<(7:Int)) (
 (ai s_.closed).bind fun r_25=>
 bg ((0:Int)≤1∧1<(7:Int)) (
 (ai s_.locked).bind fun r_26=>
 bg ((0:Int)≤2∧2<(7:Int)) (
 (ai s_.badLink).bind fun r_27=>
 bg ((0:Int)≤3∧3<(7:Int)) (
 (ai s_.on_).bind fun r_28=>
 bg ((0:Int)≤4∧4<(7:Int)) (
 (ai s_.badSource).bind fun r_29=>
 bg ((0:Int)≤5∧5<(7:Int)) (
 (ai s_.earthed).bind fun r_30=>
 bg ((0:Int)≤6∧6<(7:Int)) (
 (ai s_.badBus).bind fun r_31=>
 (jR (⟨r_25,r_26,r_27,r_28,r_29,r_30,r_31⟩:State)).bind fun r_32=>
 bg ((0:Int)≤x.index∧x.index<(r_30.length:Int)) (
 some (⟨r_25,r_26,r_27,r_28,r_29,(r_30.set x.index.toNat false),r_31⟩:State)))))))))
 else
 bif (aP x.deed 5)then
 bg ((0:Int)≤0∧0<(7:Int)) (
 (ai s_.closed).bind fun r_33=>
 bg ((0:Int)≤1∧1<(7:Int)) (
 (ai s_.locked).bind fun r_34=>
 bg ((0:Int)≤2∧2<(7:Int)) (
 (ai s_.badLink).bind fun r_35=>
 bg ((0:Int)≤3∧3<(7:Int)) (
 (ai s_.on_).bind fun r_36=>
 bg ((0:Int)≤4∧4<(7:Int)) (
 (ai s_.badSource).bind fun r_37=>
 bg ((0:Int)≤5∧5<(7:Int)) (
 (ai s_.earthed).bind fun r_38=>
 bg ((0:Int)≤6∧6<(7:Int)) (
 (ai s_.badBus).bind fun r_39=>
 (jO (⟨r_33,r_34,r_35,r_36,r_37,r_38,r_39⟩:State)).bind fun r_40=>
 bg ((0:Int)≤x.index∧x.index<(r_34.length:Int)) (
 some (⟨r_33,(r_34.set x.index.toNat true),r_35,r_36,r_37,r_38,r_39⟩:State)))))))))
 else
 bif (aP x.deed 6)then
 bg ((0:Int)≤0∧0<(7:Int)) (
 (ai s_.closed).bind fun r_41=>
 bg ((0:Int)≤1∧1<(7:Int)) (
 (ai s_.locked).bind fun r_42=>
 bg ((0:Int)≤2∧2<(7:Int)) (
 (ai s_.badLink).bind fun r_43=>
 bg ((0:Int)≤3∧3<(7:Int)) (
 (ai s_.on_).bind fun r_44=>
 bg ((0:Int)≤4∧4<(7:Int)) (
 (ai s_.badSource).bind fun r_45=>
 bg ((0:Int)≤5∧5<(7:Int)) (
 (ai s_.earthed).bind fun r_46=>
 bg ((0:Int)≤6∧6<(7:Int)) (
 (ai s_.badBus).bind fun r_47=>
 (jO (⟨r_41,r_42,r_43,r_44,r_45,r_46,r_47⟩:State)).bind fun r_48=>
 bg ((0:Int)≤x.index∧x.index<(r_42.length:Int)) (
 some (⟨r_41,(r_42.set x.index.toNat false),r_43,r_44,r_45,r_46,r_47⟩:State)))))))))
 else
 bif (aP x.deed 7)then
 bg ((0:Int)≤0∧0<(7:Int)) (
 (ai s_.closed).bind fun r_49=>
 bg ((0:Int)≤1∧1<(7:Int)) (
 (ai s_.locked).bind fun r_50=>
 bg ((0:Int)≤2∧2<(7:Int)) (
 (ai s_.badLink).bind fun r_51=>
 bg ((0:Int)≤3∧3<(7:Int)) (
 (ai s_.on_).bind fun r_52=>
 bg ((0:Int)≤4∧4<(7:Int)) (
 (ai s_.badSource).bind fun r_53=>
 bg ((0:Int)≤5∧5<(7:Int)) (
 (ai s_.earthed).bind fun r_54=>
 bg ((0:Int)≤6∧6<(7:Int)) (
 (ai s_.badBus).bind fun r_55=>
 (jP (⟨r_49,r_50,r_51,r_52,r_53,r_54,r_55⟩:State)).bind fun r_56=>
 bg ((0:Int)≤x.index∧x.index<(r_52.length:Int)) (
 some (⟨r_49,r_50,r_51,(r_52.set x.index.toNat true),r_53,r_54,r_55⟩:State)))))))))
 else
 bif (aP x.deed 8)then
 bg ((0:Int)≤0∧0<(7:Int)) (
 (ai s_.closed).bind fun r_57=>
 bg ((0:Int)≤1∧1<(7:Int)) (
 (ai s_.locked).bind fun r_58=>
 bg ((0:Int)≤2∧2<(7:Int)) (
 (ai s_.badLink).bind fun r_59=>
 bg ((0:Int)≤3∧3<(7:Int)) (
 (ai s_.on_).bind fun r_60=>
 bg ((0:Int)≤4∧4<(7:Int)) (
 (ai s_.badSource).bind fun r_61=>
 bg ((0:Int)≤5∧5<(7:Int)) (
 (ai s_.earthed).bind fun r_62=>
 bg ((0:Int)≤6∧6<(7:Int)) (
 (ai s_.badBus).bind fun r_63=>
 (jP (⟨r_57,r_58,r_59,r_60,r_61,r_62,r_63⟩:State)).bind fun r_64=>
 bg ((0:Int)≤x.index∧x.index<(r_60.length:Int)) (
 some (⟨r_57,r_58,r_59,(r_60.set x.index.toNat false),r_61,r_62,r_63⟩:State)))))))))
 else
 bg ((0:Int)≤0∧0<(7:Int)) (
 (ai s_.closed).bind fun r_65=>
 bg ((0:Int)≤1∧1<(7:Int)) (
 (ai s_.locked).bind fun r_66=>
 bg ((0:Int)≤2∧2<(7:Int)) (
 (ai s_.badLink).bind fun r_67=>
 bg ((0:Int)≤3∧3<(7:Int)) (
 (ai s_.on_).bind fun r_68=>
 bg ((0:Int)≤4∧4<(7:Int)) (
 (ai s_.badSource).bind fun r_69=>
 bg ((0:Int)≤5∧5<(7:Int)) (
 (ai s_.earthed).bind fun r_70=>
 bg ((0:Int)≤6∧6<(7:Int)) (
 (ai s_.badBus).bind fun r_71=>
 none)))))))
def qo:Option Unit:=
 some ()
def nP (p:ay) (s_:State) (x:aj):Option Bool:=
 (lH p x).bind fun r_=>
 some (!r_)
def mQ (s_:(List Bool)) (s_1:(List Bool)) (s_2:(List Bool)) (s_3:(List Bool)) (s_4:(List Bool)) (s_5:(List Bool)) (s_6:(List Bool)):Option ((List Bool) × (List Bool) × (List Bool) × (List Bool) × (List Bool) × (List Bool) × (List Bool)):=
 some (s_,s_1,s_2,s_3,s_4,s_5,s_6)
def mP (s_:(List Bool)) (s_1:(List Bool)) (s_2:(List Bool)) (s_3:(List Bool)) (s_4:(List Bool)) (s_5:(List Bool)) (s_6:(List Bool)):Option ((List Bool) × (List Bool) × (List Bool) × (List Bool) × (List Bool) × (List Bool) × (List Bool)):=
 some (s_,s_1,s_2,s_3,s_4,s_5,s_6)
def mK (s_:(List Bool)) (s_1:(List Bool)) (s_2:(List Bool)) (s_3:(List Bool)) (s_4:(List Bool)) (s_5:(List Bool)) (s_6:(List Bool)):Option ((List Bool) × (List Bool) × (List Bool) × (List Bool) × (List Bool) × (List Bool) × (List Bool)):=
 some (s_,s_1,s_2,s_3,s_4,s_5,s_6)
def mO (s_:(List Bool)) (s_1:(List Bool)) (s_2:(List Bool)) (s_3:(List Bool)) (s_4:(List Bool)) (s_5:(List Bool)) (s_6:(List Bool)):Option ((List Bool) × (List Bool) × (List Bool) × (List Bool) × (List Bool) × (List Bool) × (List Bool)):=
 some (s_,s_1,s_2,s_3,s_4,s_5,s_6)
def pF (s_:State) (x:aj):Option Bool:=
 (mG).bind fun r_=>
 bif (aP x.deed 1)then
 (mQ s_.closed s_.locked s_.badLink s_.on_ s_.badSource s_.earthed s_.badBus).bind fun r_1=>
 bg ((0:Int)≤x.index∧x.index<(r_1.1.length:Int)) (
 some ((at' r_1.1 x.index.toNat)==false))
 else
 bif (aP x.deed 2)then
 (mQ s_.closed s_.locked s_.badLink s_.on_ s_.badSource s_.earthed s_.badBus).bind fun r_2=>
 bg ((0:Int)≤x.index∧x.index<(r_2.1.length:Int)) (
 some ((at' r_2.1 x.index.toNat)==true))
 else
 bif (aP x.deed 3)then
 (mP s_.closed s_.locked s_.badLink s_.on_ s_.badSource s_.earthed s_.badBus).bind fun r_3=>
 bg ((0:Int)≤x.index∧x.index<(r_3.2.2.2.2.2.1.length:Int)) (
 some ((at' r_3.2.2.2.2.2.1 x.index.toNat)==true))
 else
 bif (aP x.deed 4)then
 (mP s_.closed s_.locked s_.badLink s_.on_ s_.badSource s_.earthed s_.badBus).bind fun r_4=>
 bg ((0:Int)≤x.index∧x.index<(r_4.2.2.2.2.2.1.length:Int)) (
 some ((at' r_4.2.2.2.2.2.1 x.index.toNat)==false))
 else
 bif (aP x.deed 5)then
 (mK s_.closed s_.locked s_.badLink s_.on_ s_.badSource s_.earthed s_.badBus).bind fun r_5=>
 bg ((0:Int)≤x.index∧x.index<(r_5.2.1.length:Int)) (
 some ((at' r_5.2.1 x.index.toNat)==true))
 else
 bif (aP x.deed 6)then
 (mK s_.closed s_.locked s_.badLink s_.on_ s_.badSource s_.earthed s_.badBus).bind fun r_6=>
 bg ((0:Int)≤x.index∧x.index<(r_6.2.1.length:Int)) (
 some ((at' r_6.2.1 x.index.toNat)==false))
 else
 bif (aP x.deed 7)then
 (mO s_.closed s_.locked s_.badLink s_.on_ s_.badSource s_.earthed s_.badBus).bind fun r_7=>
 bg ((0:Int)≤x.index∧x.index<(r_7.2.2.2.1.length:Int)) (
 some ((at' r_7.2.2.2.1 x.index.toNat)==true))
 else
 bif (aP x.deed 8)then
 (mO s_.closed s_.locked s_.badLink s_.on_ s_.badSource s_.earthed s_.badBus).bind fun r_8=>
 bg ((0:Int)≤x.index∧x.index<(r_8.2.2.2.1.length:Int)) (
 some ((at' r_8.2.2.2.1 x.index.toNat)==false))
 else
 none
def og (p:ay) (s_:State) (x:aj):Option Bool:=
 (pF s_ x).bind fun r_=>
 some r_
def fC (x:aj):Option Bool:=
 some (bif (decide (x.deed=1))then true else(decide (x.deed=2)))
def wD (x:aj):Option Bool:=
 some (bif (decide (x.deed=7))then true else(decide (x.deed=8)))
def kV (p:ay) (s_:State) (x:aj):Option Bool:=
 (fC x).bind fun r_=>
 (bif gB [((bif r_ then(at' s_.badLink x.index.toNat)else false),false)]then wD x else some default).bind fun r_1=>
 bg ((gB [(r_,true)]=true→(0:Int)≤x.index∧x.index<(s_.badLink.length:Int))∧(gB [(r_1,true),((bif r_ then(at' s_.badLink x.index.toNat)else false),false)]=true→(0:Int)≤x.index∧x.index<(s_.badSource.length:Int))) (
 some (bif (bif r_ then(at' s_.badLink x.index.toNat)else false)then true else(bif r_1 then(at' s_.badSource x.index.toNat)else false)))
def kK (p:ay) (s_:State) (x:aj):Option Bool:=
 (fC x).bind fun r_=>
 bg (gB [(r_,true)]=true→(0:Int)≤x.index∧x.index<(s_.locked.length:Int)) (
 some (bif r_ then(at' s_.locked x.index.toNat)else false))
def ko (p:ay) (s_:State):Option ((List aH) × Int):=
 (cK p s_).bind fun r_=>
 bif (!decide (r_=0))then
 some (([]:List aH),r_)
 else
 (eX p s_).bind fun r_1=>
 some (r_1,0)
def o9 (x:aH) (x1:Int):Option Bool:=
 (iK x.buses x1).bind fun r_=>
 some r_
def fK (s_:(List aH)) (f_:Int):Int→Option (dh Int (Ex Unit Int)):=
 fun t8=>
 bif (decide (t8<(s_.length:Int)))then
 (o9 (at' s_ t8.toNat) f_).bind fun r_=>
 bg ((0:Int)≤t8∧t8<(s_.length:Int)) (
 bif r_ then
 some (.done (.ret t8))
 else
 some (.next (IntKind.wrap .i64 (t8+1))))
 else
 some (.done (.brk ()))
def dX (s_:(List aH)) (f_:Int):Option Int:=
 Option.bind (aV (fK s_ f_) FUEL (0)) fun o=>match o with
 | .ret v=>some v
 | .brk _=>
 some (-1)
def gX (b:Int) (x1:(List aH)):Option Int:=
 (dX x1 b).bind fun r_=>
 some r_
def qE (p:ay) (s_:State) (i:Int):Option Bool:=
 bg ((0:Int)≤i∧i<(s_.closed.length:Int)) (
 bif (at' s_.closed i.toNat)then
 (lY s_ (⟨1,i⟩:aj)).bind fun r_=>
 (ko p r_).bind fun r_1=>
 (gX ((at' p.links i.toNat).a) r_1.1).bind fun r_2=>
 (gX ((at' p.links i.toNat).b) r_1.1).bind fun r_3=>
 bg ((0:Int)≤i∧i<(p.links.length:Int)) (
 bg ((gB [((bif (bif (decide (0≤r_2))then(decide (0≤r_3))else false)then(!decide (r_2=r_3))else false),true)]=true→(0:Int)≤r_2∧r_2<(r_1.1.length:Int))∧(gB [((bif (bif (decide (0≤r_2))then(decide (0≤r_3))else false)then(!decide (r_2=r_3))else false),true)]=true→(0:Int)≤r_3∧r_3<(r_1.1.length:Int))) (
 some (bif (bif (bif (decide (0≤r_2))then(decide (0≤r_3))else false)then(!decide (r_2=r_3))else false)then(decide (0<(IntKind.wrap .i64 ((((at' r_1.1 r_2.toNat).sources).length:Int)+(((at' r_1.1 r_3.toNat).sources).length:Int)))))else false)))
 else
 (ko p s_).bind fun r_4=>
 (gX ((at' p.links i.toNat).a) r_4.1).bind fun r_5=>
 (gX ((at' p.links i.toNat).b) r_4.1).bind fun r_6=>
 bg ((0:Int)≤i∧i<(p.links.length:Int)) (
 bg ((gB [((bif (bif (decide (0≤r_5))then(decide (0≤r_6))else false)then(!decide (r_5=r_6))else false),true)]=true→(0:Int)≤r_5∧r_5<(r_4.1.length:Int))∧(gB [((bif (bif (decide (0≤r_5))then(decide (0≤r_6))else false)then(!decide (r_5=r_6))else false),true)]=true→(0:Int)≤r_6∧r_6<(r_4.1.length:Int))) (
 some (bif (bif (bif (decide (0≤r_5))then(decide (0≤r_6))else false)then(!decide (r_5=r_6))else false)then(decide (0<(IntKind.wrap .i64 ((((at' r_4.1 r_5.toNat).sources).length:Int)+(((at' r_4.1 r_6.toNat).sources).length:Int)))))else false))))
def kU (p:ay) (s_:State) (x:aj):Option Bool:=
 (fC x).bind fun r_=>
 (bif gB [((bif r_ then(decide (((at' p.links x.index.toNat).kind)=2))else false),true)]then qE p s_ x.index else some default).bind fun r_1=>
 bg (gB [(r_,true)]=true→(0:Int)≤x.index∧x.index<(p.links.length:Int)) (
 some (bif (bif r_ then(decide (((at' p.links x.index.toNat).kind)=2))else false)then r_1 else false))
def sH (p:ay) (s_:State) (x:aj):Option (State × Int):=
 (qo).bind fun r_=>
 (nP p s_ x).bind fun r_1=>
 bif r_1 then
 some ((⟨([]:List Bool),([]:List Bool),([]:List Bool),([]:List Bool),([]:List Bool),([]:List Bool),([]:List Bool)⟩:State),1)
 else
 (og p s_ x).bind fun r_2=>
 bif r_2 then
 some ((⟨([]:List Bool),([]:List Bool),([]:List Bool),([]:List Bool),([]:List Bool),([]:List Bool),([]:List Bool)⟩:State),46)
 else
 (kV p s_ x).bind fun r_3=>
 bif r_3 then
 some ((⟨([]:List Bool),([]:List Bool),([]:List Bool),([]:List Bool),([]:List Bool),([]:List Bool),([]:List Bool)⟩:State),47)
 else
 (kK p s_ x).bind fun r_4=>
 bif r_4 then
 some ((⟨([]:List Bool),([]:List Bool),([]:List Bool),([]:List Bool),([]:List Bool),([]:List Bool),([]:List Bool)⟩:State),43)
 else
 (kU p s_ x).bind fun r_5=>
 bif r_5 then
 some ((⟨([]:List Bool),([]:List Bool),([]:List Bool),([]:List Bool),([]:List Bool),([]:List Bool),([]:List Bool)⟩:State),44)
 else
 (lY s_ x).bind fun r_6=>
 some (r_6,0)
def qJ (p:ay) (s_:State) (t:Task) (x:aj):Option (State × Int):=
 (sH p s_ x).bind fun r_=>
 bif (decide (r_.2=0))then
 (mH p r_.1 t).bind fun r_1=>
 some (r_.1,r_1)
 else
 some (r_.1,r_.2)
def iO (p:ay) (t:Task) (l:(List aj)):((List Bool) × (List Bool) × (List Bool) × (List Bool) × (List Bool) × (List Bool) × (List Bool) × Int)→Option (dh ((List Bool) × (List Bool) × (List Bool) × (List Bool) × (List Bool) × (List Bool) × (List Bool) × Int) (Ex ((List Bool) × (List Bool) × (List Bool) × (List Bool) × (List Bool) × (List Bool) × (List Bool)) (Int × State × Int))):=
 fun zz=>match zz with
 |(s0,s1,s2,s3,s4,s5,s6,t31)=>
 bif (decide (t31<(l.length:Int)))then
 bg ((0:Int)≤t31∧t31<(l.length:Int)) (
 (qJ p (⟨s0,s1,s2,s3,s4,s5,s6⟩:State) t (at' l t31.toNat)).bind fun r_2=>
 bif (!decide (r_2.2=0))then
 some (.done (.ret (t31,(⟨([]:List Bool),([]:List Bool),([]:List Bool),([]:List Bool),([]:List Bool),([]:List Bool),([]:List Bool)⟩:State),r_2.2)))
 else
 some (.next (r_2.1.closed,r_2.1.locked,r_2.1.badLink,r_2.1.on_,r_2.1.badSource,r_2.1.earthed,r_2.1.badBus,(IntKind.wrap .i64 (t31+1)))))
 else
 some (.done (.brk (s0,s1,s2,s3,s4,s5,s6)))
def nR (p:ay) (s_:State) (t:Task) (l:(List aj)):Option (Int × State × Int):=
 (mD p s_ t).bind fun r_=>
 bif (!decide (r_=0))then
 some (0,(⟨([]:List Bool),([]:List Bool),([]:List Bool),([]:List Bool),([]:List Bool),([]:List Bool),([]:List Bool)⟩:State),r_)
 else
 bif (decide (256<(l.length:Int)))then
 some (0,(⟨([]:List Bool),([]:List Bool),([]:List Bool),([]:List Bool),([]:List Bool),([]:List Bool),([]:List Bool)⟩:State),2)
 else
 (oL s_).bind fun r_1=>
 Option.bind (aV (iO p t l) FUEL (r_1.closed,r_1.locked,r_1.badLink,r_1.on_,r_1.badSource,r_1.earthed,r_1.badBus,0)) fun o=>match o with
 | .ret v=>some v
 | .brk (s01,s11,s21,s31,s41,s51,s61)=>
 some ((l.length:Int),(⟨s01,s11,s21,s31,s41,s51,s61⟩:State),0)
def nW (s_:(List Int)) (s_nn:Bool):Option (List Int):=
 bif (!s_nn)then
 some ([]:List Int)
 else
 bg (((([]:List Int).length+s_.length)*8≤140737488355328)∧(([]:List Int).length+s_.length≤4611686018427387904)) (
 some (([]:List Int)++s_))
def gI (s:(List Int)):Option (List Int):=nW s true
def nU (s_:(List Source)) (s_nn:Bool):Option (List Source):=
 bif (!s_nn)then
 some ([]:List Source)
 else
 bg (((([]:List Source).length+s_.length)*40≤140737488355328)∧(([]:List Source).length+s_.length≤4611686018427387904)) (
 some (([]:List Source)++s_))
def jy (s:(List Source)):Option (List Source):=nU s true
def oJ (s_:(List Link)) (s_nn:Bool):Option (List Link):=
 bif (!s_nn)then
 some ([]:List Link)
 else
 bg (((([]:List Link).length+s_.length)*64≤140737488355328)∧(([]:List Link).length+s_.length≤4611686018427387904)) (
 some (([]:List Link)++s_))
def jv (s:(List Link)):Option (List Link):=oJ s true
def nZ (s_:(List aL)) (s_nn:Bool):Option (List aL):=
 bif (!s_nn)then
 some ([]:List aL)
 else
 bg (((([]:List aL).length+s_.length)*32≤140737488355328)∧(([]:List aL).length+s_.length≤4611686018427387904)) (
 some (([]:List aL)++s_))
def jC (s:(List aL)):Option (List aL):=nZ s true
def ol (s_:(List dO)) (s_nn:Bool):Option (List dO):=
 bif (!s_nn)then
 some ([]:List dO)
 else
 bg (((([]:List dO).length+s_.length)*16≤140737488355328)∧(([]:List dO).length+s_.length≤4611686018427387904)) (
 some (([]:List dO)++s_))
def jr (s:(List dO)):Option (List dO):=ol s true
def fo (r_1:(List Link)):((List Link) × Int)→Option (dh ((List Link) × Int) (Ex (List Link) ay)):=
 fun zz=>match zz with
 |(p2,t19)=>
 bif (decide (t19<(r_1.length:Int)))then
 (jr ((at' p2 t19.toNat).trip)).bind fun r_3=>
 bg ((0:Int)≤t19∧t19<(p2.length:Int)) (
 some (.next ((p2.set t19.toNat (⟨(at' p2 t19.toNat).a,(at' p2 t19.toNat).b,(at' p2 t19.toNat).kind,(at' p2 t19.toNat).most,(at' p2 t19.toNat).ohm,r_3⟩:Link)),(IntKind.wrap .i64 (t19+1)))))
 else
 some (.done (.brk p2))
def jV (p:ay):Option ay:=
 (jy p.sources).bind fun r_=>
 (jv p.links).bind fun r_1=>
 (jC p.racks).bind fun r_2=>
 Option.bind (aV (fo r_1) FUEL (r_1,0)) fun o=>match o with
 | .ret v=>some v
 | .brk p21=>
 some (⟨p.buses,r_,p21,r_2⟩:ay)
def dK (s_:State):Option State:=
 bg ((0:Int)≤0∧0<(7:Int)) (
 (ai s_.closed).bind fun r_=>
 bg ((0:Int)≤1∧1<(7:Int)) (
 (ai s_.locked).bind fun r_1=>
 bg ((0:Int)≤2∧2<(7:Int)) (
 (ai s_.badLink).bind fun r_2=>
 bg ((0:Int)≤3∧3<(7:Int)) (
 (ai s_.on_).bind fun r_3=>
 bg ((0:Int)≤4∧4<(7:Int)) (
 (ai s_.badSource).bind fun r_4=>
 bg ((0:Int)≤5∧5<(7:Int)) (
 (ai s_.earthed).bind fun r_5=>
 bg ((0:Int)≤6∧6<(7:Int)) (
 (ai s_.badBus).bind fun r_6=>
 some (⟨r_,r_1,r_2,r_3,r_4,r_5,r_6⟩:State))))))))
def oD (s_:(List Item)) (s_nn:Bool):Option (List Item):=
 bif (!s_nn)then
 some ([]:List Item)
 else
 bg (((([]:List Item).length+s_.length)*24≤140737488355328)∧(([]:List Item).length+s_.length≤4611686018427387904)) (
 some (([]:List Item)++s_))
def jo (s:(List Item)):Option (List Item):=oD s true
def fF (p:ay) (s_:State) (x:aj):Option (State × Int):=
 (cK p s_).bind fun r_=>
 bif (!decide (r_=0))then
 some ((⟨([]:List Bool),([]:List Bool),([]:List Bool),([]:List Bool),([]:List Bool),([]:List Bool),([]:List Bool)⟩:State),r_)
 else
 (sH p s_ x).bind fun r_1=>
 some (r_1.1,r_1.2)
def j5 (x:aj):Option aj:=
 bif (bif (decide (1≤x.deed))then(decide (x.deed≤8))else false)then
 some (⟨(IntKind.wrap .i64 ((IntKind.wrap .i64 (((BitVec.ofInt (IntKind.bits .i64) (IntKind.wrap .i64 (x.deed - 1)) ^^^ BitVec.ofInt (IntKind.bits .i64) 1).toNat:Int)))+1)),x.index⟩:aj)
 else
 some x
def wU:Option (ay × State × (List Item)):=
 bg (((0:Int)≤2)∧((1:Int)*2≤281474976710656)∧((2:Int)≤9223372036854775807)∧((0:Int)≤1)∧((1:Int)*1≤281474976710656)∧((1:Int)≤9223372036854775807)∧((0:Int)≤3)∧((1:Int)*3≤281474976710656)∧((3:Int)≤9223372036854775807)) (
 some ((⟨3,[(⟨0,1,500,0,20⟩:Source)],[(⟨0,1,3,400,10,([]:List dO)⟩:Link),(⟨1,2,2,400,10,([]:List dO)⟩:Link)],[(⟨(⟨2,(-1)⟩:aN),100,1⟩:aL)]⟩:ay),(⟨[true,true],(List.replicate 2 (false:Bool)),(List.replicate 2 (false:Bool)),[true],(List.replicate 1 (false:Bool)),(List.replicate 3 (false:Bool)),(List.replicate 3 (false:Bool))⟩:State),[(⟨(⟨1,0⟩:aj),true⟩:Item),(⟨(⟨1,1⟩:aj),false⟩:Item)]))
def fG (l:(List Item)):((List aj) × Int)→Option (dh ((List aj) × Int) (Ex (List aj) (Bool × Int × Int × Run))):=
 fun zz=>match zz with
 |(program,t22)=>
 bif (decide (t22<(l.length:Int)))then
 bg ((0:Int)≤t22∧t22<(l.length:Int)) (
 bg (((program.length+[((at' l t22.toNat).step)].length)*16≤140737488355328)∧(program.length+[((at' l t22.toNat).step)].length≤4611686018427387904)) (
 some (.next ((program++[((at' l t22.toNat).step)]),(IntKind.wrap .i64 (t22+1))))))
 else
 some (.done (.brk program))
def di (p:ay) (s_:State) (t:Task) (l:(List Item)):Option (Bool × Int × Int × Run):=
 bif (decide (64<(l.length:Int)))then
 some (false,0,2,(default:Run))
 else
 Option.bind (aV (fG l) FUEL (([]:List aj),0)) fun o=>match o with
 | .ret v=>some v
 | .brk program1=>
 (nR p s_ t program1).bind fun r_=>
 bif (!decide (r_.2.2=0))then
 some (false,r_.1,r_.2.2,(default:Run))
 else
 (gI t.fed).bind fun r_1=>
 (gI t.crew).bind fun r_2=>
 (jV p).bind fun r_3=>
 (dK s_).bind fun r_4=>
 (jo l).bind fun r_5=>
 (dK s_).bind fun r_6=>
 some (true,r_.1,0,(⟨(⟨r_3,r_4,(⟨r_1,r_2,([]:List aj),([]:List aj)⟩:Task),r_5⟩:Setting),r_6,0,false,false,([]:List av)⟩:Run))
def dm (run:Run):Option Bool:=
 some false
def eF (run:Run):Option Int:=
 (dm run).bind fun r_=>
 bif r_ then
 some 5
 else
 bif (decide (1000≤(run.log.length:Int)))then
 some 2
 else
 some 0
def kM (errno:Int) (state:State) (run:Run):Option Run:=
 bif (decide (errno=0))then
 some (⟨run.setting,state,run.done,run.wait,run.back,run.log⟩:Run)
 else
 some run
def iI (x:aj) (run:Run):Option (Int × Run):=
 Option.bind (α:=(Int × (List Bool) × (List Bool) × (List Bool) × (List Bool) × (List Bool) × (List Bool) × (List Bool))) (
 (fF run.setting.plant run.now x).bind fun r_=>
 some (r_.2,r_.1.closed,r_.1.locked,r_.1.badLink,r_.1.on_,r_.1.badSource,r_.1.earthed,r_.1.badBus)) fun z_=>
 Option.bind (α:=Int) (
 bif (decide (z_.1=0))then
 (mD run.setting.plant (⟨z_.2.1,z_.2.2.1,z_.2.2.2.1,z_.2.2.2.2.1,z_.2.2.2.2.2.1,z_.2.2.2.2.2.2.1,z_.2.2.2.2.2.2.2⟩:State) run.setting.task).bind fun r_1=>
 some r_1
 else
 some z_.1) fun w_=>
 Option.bind (kM w_ (⟨z_.2.1,z_.2.2.1,z_.2.2.2.1,z_.2.2.2.2.1,z_.2.2.2.2.2.1,z_.2.2.2.2.2.2.1,z_.2.2.2.2.2.2.2⟩:State) run) fun r_2=>
 some (w_,(⟨r_2.setting,r_2.now,r_2.done,r_2.wait,r_2.back,run.log⟩:Run))
def dz (run:Run):Option (Int × Run):=
 (eF run).bind fun r_=>
 bif (!decide (r_=0))then
 some (r_,run)
 else
 bif run.back then
 some (9,run)
 else
 bif run.wait then
 some (130,run)
 else
 bif (decide (run.done=(run.setting.items.length:Int)))then
 some (4,run)
 else
 bg ((0:Int)≤run.done∧run.done<(run.setting.items.length:Int)) (
 (iI ((at' run.setting.items run.done.toNat).step) run).bind fun r_1=>
 bif (!decide (r_1.1=0))then
 some (r_1.1,(⟨r_1.2.setting,r_1.2.now,r_1.2.done,r_1.2.wait,r_1.2.back,run.log⟩:Run))
 else
 bg (((run.log.length+[(⟨1,((at' run.setting.items run.done.toNat).step),(⟨0,0⟩:Part),0⟩:av)].length)*48≤140737488355328)∧(run.log.length+[(⟨1,((at' run.setting.items run.done.toNat).step),(⟨0,0⟩:Part),0⟩:av)].length≤4611686018427387904)) (
 some (0,(⟨r_1.2.setting,r_1.2.now,(IntKind.wrap .i64 (r_1.2.done+1)),(at' run.setting.items run.done.toNat).ack,r_1.2.back,(run.log++[(⟨1,((at' run.setting.items run.done.toNat).step),(⟨0,0⟩:Part),0⟩:av)])⟩:Run))))
def gY (who:Int) (run:Run):Option (Int × Run):=
 (eF run).bind fun r_=>
 bif (!decide (r_=0))then
 some (r_,run)
 else
 bif (!run.wait)then
 some (9,run)
 else
 bif (bif (decide (who<1))then true else(decide (1000<who)))then
 some (1,run)
 else
 bg (((run.log.length+[(⟨2,(⟨0,0⟩:aj),(⟨0,0⟩:Part),who⟩:av)].length)*48≤140737488355328)∧(run.log.length+[(⟨2,(⟨0,0⟩:aj),(⟨0,0⟩:Part),who⟩:av)].length≤4611686018427387904)) (
 some (0,(⟨run.setting,run.now,run.done,false,run.back,(run.log++[(⟨2,(⟨0,0⟩:aj),(⟨0,0⟩:Part),who⟩:av)])⟩:Run)))
def ou (run:Run):Option Unit:=
 some ()
def iF (x18:Int) (r_:((List ax) × Int)):((List (Int × Int)) × Int)→Option (dh ((List (Int × Int)) × Int) (Ex (List (Int × Int)) ((List (Int × Int)) × (List ax) × (List ax)))):=
 fun zz=>match zz with
 |(o0,t37)=>
 bif (decide (t37<(r_.1.length:Int)))then
 bg ((0:Int)≤t37∧t37<(r_.1.length:Int)) (
 bif (bif (at' r_.1 t37.toNat).e0 then true else(at' r_.1 t37.toNat).e1)then
 some (.next ((eB aP t37 x18 o0),(IntKind.wrap .i64 (t37+1))))
 else
 some (.next (o0,(IntKind.wrap .i64 (t37+1)))))
 else
 some (.done (.brk o0))
def iG (x18:Int) (r_:((List ax) × Int)):((List (Int × Int)) × Int)→Option (dh ((List (Int × Int)) × Int) (Ex (List (Int × Int)) ((List (Int × Int)) × (List ax) × (List ax)))):=
 fun zz=>match zz with
 |(o02,t371)=>
 bif (decide (t371<(r_.1.length:Int)))then
 bg ((0:Int)≤t371∧t371<(r_.1.length:Int)) (
 bif (bif (at' r_.1 t371.toNat).e0 then true else(at' r_.1 t371.toNat).e1)then
 some (.next ((eB aP t371 x18 o02),(IntKind.wrap .i64 (t371+1))))
 else
 some (.next (o02,(IntKind.wrap .i64 (t371+1)))))
 else
 some (.done (.brk o02))
def eP (x18:Int) (x19:(List Bool)) (x191:(List Bool)) (x192:(List Bool)) (x193:(List Bool)) (x194:(List Bool)) (x195:(List Bool)) (x196:(List Bool)) (o_:(List (Int × Int))) (o_1:(List ax)) (o_2:(List ax)) (run:Run):Option ((List (Int × Int)) × (List ax) × (List ax)):=
 (jL run.setting.plant (⟨x19,x191,x192,x193,x194,x195,x196⟩:State)).bind fun r_=>
 bif (decide (x18=0))then
 Option.bind (aV (iF x18 r_) FUEL (o_,0)) fun o=>match o with
 | .ret v=>some v
 | .brk o01=>
 some (o01,r_.1,r_.1)
 else
 Option.bind (aV (iG x18 r_) FUEL (o_,0)) fun o=>match o with
 | .ret v=>some v
 | .brk o03=>
 some (o03,o_1,r_.1)
def oG (s_:State):Option State:=
 bg ((0:Int)≤0∧0<(7:Int)) (
 (ai s_.closed).bind fun r_=>
 bg ((0:Int)≤1∧1<(7:Int)) (
 (ai s_.locked).bind fun r_1=>
 bg ((0:Int)≤2∧2<(7:Int)) (
 (ai s_.badLink).bind fun r_2=>
 bg ((0:Int)≤3∧3<(7:Int)) (
 (ai s_.on_).bind fun r_3=>
 bg ((0:Int)≤4∧4<(7:Int)) (
 (ai s_.badSource).bind fun r_4=>
 bg ((0:Int)≤5∧5<(7:Int)) (
 (ai s_.earthed).bind fun r_5=>
 bg ((0:Int)≤6∧6<(7:Int)) (
 (ai s_.badBus).bind fun r_6=>
 some (⟨r_,r_1,r_2,r_3,r_4,r_5,r_6⟩:State))))))))
def gZ (p:ay) (s_:State) (x:Part) (is:Bool):Option (State × Int):=
 (cK p s_).bind fun r_=>
 bif (!decide (r_=0))then
 some ((⟨([]:List Bool),([]:List Bool),([]:List Bool),([]:List Bool),([]:List Bool),([]:List Bool),([]:List Bool)⟩:State),r_)
 else
 (oG s_).bind fun r_1=>
 bif (aP x.kind 1)then
 (aW x.index 0 (IntKind.wrap .i64 ((r_1.badBus.length:Int) - 1))).bind fun r_2=>
 bif (!r_2)then
 some ((⟨([]:List Bool),([]:List Bool),([]:List Bool),([]:List Bool),([]:List Bool),([]:List Bool),([]:List Bool)⟩:State),14)
 else
 bg ((0:Int)≤x.index∧x.index<(r_1.badBus.length:Int)) (
 some ((⟨r_1.closed,r_1.locked,r_1.badLink,r_1.on_,r_1.badSource,r_1.earthed,(r_1.badBus.set x.index.toNat is)⟩:State),0))
 else
 bif (aP x.kind 2)then
 (aW x.index 0 (IntKind.wrap .i64 ((r_1.badSource.length:Int) - 1))).bind fun r_3=>
 bif (!r_3)then
 some ((⟨([]:List Bool),([]:List Bool),([]:List Bool),([]:List Bool),([]:List Bool),([]:List Bool),([]:List Bool)⟩:State),14)
 else
 bg ((0:Int)≤x.index∧x.index<(r_1.badSource.length:Int)) (
 some ((⟨r_1.closed,r_1.locked,r_1.badLink,r_1.on_,(r_1.badSource.set x.index.toNat is),r_1.earthed,r_1.badBus⟩:State),0))
 else
 bif (aP x.kind 3)then
 (aW x.index 0 (IntKind.wrap .i64 ((r_1.badLink.length:Int) - 1))).bind fun r_4=>
 bif (!r_4)then
 some ((⟨([]:List Bool),([]:List Bool),([]:List Bool),([]:List Bool),([]:List Bool),([]:List Bool),([]:List Bool)⟩:State),14)
 else
 bg ((0:Int)≤x.index∧x.index<(r_1.badLink.length:Int)) (
 some ((⟨r_1.closed,r_1.locked,(r_1.badLink.set x.index.toNat is),r_1.on_,r_1.badSource,r_1.earthed,r_1.badBus⟩:State),0))
 else
 (aW x.index 0 (-1)).bind fun r_5=>
 bif (!r_5)then
 some ((⟨([]:List Bool),([]:List Bool),([]:List Bool),([]:List Bool),([]:List Bool),([]:List Bool),([]:List Bool)⟩:State),14)
 else
 none
def dN (p:ay) (s_:State) (x:Part):Option (State × Int):=
 (gZ p s_ x true).bind fun r_=>
 some (r_.1,r_.2)
def d9 (p:ay) (s_:State) (x:Part):Option (State × Int):=
 (gZ p s_ x false).bind fun r_=>
 some (r_.1,r_.2)
def cZ (run:Run):((List (Int × Int)) × (List ax) × (List ax) × (List Bool) × (List Bool) × (List Bool) × (List Bool) × (List Bool) × (List Bool) × (List Bool) × Int)→Option (dh ((List (Int × Int)) × (List ax) × (List ax) × (List Bool) × (List Bool) × (List Bool) × (List Bool) × (List Bool) × (List Bool) × (List Bool) × Int) (Ex ((List (Int × Int)) × (List ax) × (List ax) × (List Bool) × (List Bool) × (List Bool) × (List Bool) × (List Bool) × (List Bool) × (List Bool)) ((List (Int × Int)) × (List ax) × (List ax)))):=
 fun zz=>match zz with
 |(o0,o01,o02,s0,s1,s2,s3,s4,s5,s6,t19)=>
 bif (decide (t19<(run.log.length:Int)))then
 Option.bind (α:=(Ex ((List (Int × Int)) × (List ax) × (List ax) × (List Bool) × (List Bool) × (List Bool) × (List Bool) × (List Bool) × (List Bool) × (List Bool)) (dh ((List (Int × Int)) × (List ax) × (List ax) × (List Bool) × (List Bool) × (List Bool) × (List Bool) × (List Bool) × (List Bool) × (List Bool) × Int) (Ex ((List (Int × Int)) × (List ax) × (List ax) × (List Bool) × (List Bool) × (List Bool) × (List Bool) × (List Bool) × (List Bool) × (List Bool)) ((List (Int × Int)) × (List ax) × (List ax)))))) (
 bg ((0:Int)≤t19∧t19<(run.log.length:Int)) (
 (eP t19 s0 s1 s2 s3 s4 s5 s6 o0 o01 o02 run).bind fun r_1=>
 bif (decide (((at' run.log t19.toNat).kind)=1))then
 bif (decide (((at' run.log t19.toNat).kind)=1))then
 (fF run.setting.plant (⟨s0,s1,s2,s3,s4,s5,s6⟩:State) ((at' run.log t19.toNat).step)).bind fun r_2=>
 some (.brk (r_1.1,r_1.2.1,r_1.2.2,r_2.1.closed,r_2.1.locked,r_2.1.badLink,r_2.1.on_,r_2.1.badSource,r_2.1.earthed,r_2.1.badBus))
 else
 bif (decide (((at' run.log t19.toNat).kind)=4))then
 (dN run.setting.plant (⟨s0,s1,s2,s3,s4,s5,s6⟩:State) ((at' run.log t19.toNat).part)).bind fun r_3=>
 some (.brk (r_1.1,r_1.2.1,r_1.2.2,r_3.1.closed,r_3.1.locked,r_3.1.badLink,r_3.1.on_,r_3.1.badSource,r_3.1.earthed,r_3.1.badBus))
 else
 bif (decide (((at' run.log t19.toNat).kind)=5))then
 (d9 run.setting.plant (⟨s0,s1,s2,s3,s4,s5,s6⟩:State) ((at' run.log t19.toNat).part)).bind fun r_4=>
 some (.brk (r_1.1,r_1.2.1,r_1.2.2,r_4.1.closed,r_4.1.locked,r_4.1.badLink,r_4.1.on_,r_4.1.badSource,r_4.1.earthed,r_4.1.badBus))
 else
 some (.brk (r_1.1,r_1.2.1,r_1.2.2,s0,s1,s2,s3,s4,s5,s6))
 else
 bif (decide (((at' run.log t19.toNat).kind)=3))then
 (fF run.setting.plant (⟨s0,s1,s2,s3,s4,s5,s6⟩:State) ((at' run.log t19.toNat).step)).bind fun r_5=>
 some (.brk (r_1.1,r_1.2.1,r_1.2.2,r_5.1.closed,r_5.1.locked,r_5.1.badLink,r_5.1.on_,r_5.1.badSource,r_5.1.earthed,r_5.1.badBus))
 else
 bif (decide (((at' run.log t19.toNat).kind)=4))then
 (dN run.setting.plant (⟨s0,s1,s2,s3,s4,s5,s6⟩:State) ((at' run.log t19.toNat).part)).bind fun r_6=>
 some (.brk (r_1.1,r_1.2.1,r_1.2.2,r_6.1.closed,r_6.1.locked,r_6.1.badLink,r_6.1.on_,r_6.1.badSource,r_6.1.earthed,r_6.1.badBus))
 else
 bif (decide (((at' run.log t19.toNat).kind)=5))then
 (d9 run.setting.plant (⟨s0,s1,s2,s3,s4,s5,s6⟩:State) ((at' run.log t19.toNat).part)).bind fun r_7=>
 some (.brk (r_1.1,r_1.2.1,r_1.2.2,r_7.1.closed,r_7.1.locked,r_7.1.badLink,r_7.1.on_,r_7.1.badSource,r_7.1.earthed,r_7.1.badBus))
 else
 some (.brk (r_1.1,r_1.2.1,r_1.2.2,s0,s1,s2,s3,s4,s5,s6)))) fun o=>match o with
 | .ret v=>some v
 | .brk (o06,o07,o08,s02,s12,s22,s32,s42,s52,s62)=>
 some (.next (o06,o07,o08,s02,s12,s22,s32,s42,s52,s62,(IntKind.wrap .i64 (t19+1))))
 else
 some (.done (.brk (o0,o01,o02,s0,s1,s2,s3,s4,s5,s6)))
def jB (o_:(List (Int × Int))) (o_1:(List ax)) (o_2:(List ax)) (run:Run):Option ((List (Int × Int)) × (List ax) × (List ax)):=
 (dK run.setting.begin).bind fun r_=>
 Option.bind (aV (cZ run) FUEL (o_,o_1,o_2,r_.closed,r_.locked,r_.badLink,r_.on_,r_.badSource,r_.earthed,r_.badBus,0)) fun o=>match o with
 | .ret v=>some v
 | .brk (o03,o04,o05,s01,s11,s21,s31,s41,s51,s61)=>
 (eP (run.log.length:Int) s01 s11 s21 s31 s41 s51 s61 o03 o04 o05 run).bind fun r_8=>
 some (r_8.1,r_8.2.1,r_8.2.2)
def fM (run:Run) (r_2:((List (Int × Int)) × (List ax) × (List ax))):((List eY) × Int)→Option (dh ((List eY) × Int) (Ex (List eY) ((List eY) × Int))):=
 fun zz=>match zz with
 |(out,t61)=>
 bif (decide (t61<(run.setting.plant.racks.length:Int)))then
 bg (((0:Int)≤t61∧t61<(r_2.2.1.length:Int))∧(gB [((at' r_2.2.1 t61.toNat).e0,false)]=true→(0:Int)≤t61∧t61<(r_2.2.1.length:Int))∧(gB [((bif (at' r_2.2.1 t61.toNat).e0 then true else(at' r_2.2.1 t61.toNat).e1),true)]=true→(0:Int)≤t61∧t61<(r_2.2.2.length:Int))∧(gB [((bif (bif (at' r_2.2.1 t61.toNat).e0 then true else(at' r_2.2.1 t61.toNat).e1)then(!((at' r_2.2.2 t61.toNat).e0))else false),true)]=true→(0:Int)≤t61∧t61<(r_2.2.2.length:Int))) (
 bif (bif (bif (bif (at' r_2.2.1 t61.toNat).e0 then true else(at' r_2.2.1 t61.toNat).e1)then(!((at' r_2.2.2 t61.toNat).e0))else false)then(!((at' r_2.2.2 t61.toNat).e1))else false)then
 bg (((out.length+[(⟨t61,((bB aP t61 r_2.1).getD 0)⟩:eY)].length)*16≤140737488355328)∧(out.length+[(⟨t61,((bB aP t61 r_2.1).getD 0)⟩:eY)].length≤4611686018427387904)) (
 some (.next ((out++[(⟨t61,((bB aP t61 r_2.1).getD 0)⟩:eY)]),(IntKind.wrap .i64 (t61+1)))))
 else
 some (.next (out,(IntKind.wrap .i64 (t61+1)))))
 else
 some (.done (.brk out))
def fT (run:Run):Option ((List eY) × Int):=
 (dm run).bind fun r_=>
 bif r_ then
 some (([]:List eY),5)
 else
 (ou run).bind fun r_1=>
 (jB ([]:(List (Int × Int))) ([]:List ax) ([]:List ax) run).bind fun r_2=>
 Option.bind (aV (fM run r_2) FUEL (([]:List eY),0)) fun o=>match o with
 | .ret v=>some v
 | .brk out1=>
 some (out1,0)
def bU (run:Run):Option (Int × Run):=
 (eF run).bind fun r_=>
 bif (!decide (r_=0))then
 some (r_,run)
 else
 bif (decide (run.done=0))then
 some (4,run)
 else
 (j5 ((at' run.setting.items ((IntKind.wrap .i64 (run.done - 1)).toNat)).step)).bind fun r_1=>
 bg ((0:Int)≤(IntKind.wrap .i64 (run.done - 1))∧(IntKind.wrap .i64 (run.done - 1))<(run.setting.items.length:Int)) (
 (iI r_1 run).bind fun r_2=>
 bif (!decide (r_2.1=0))then
 some (r_2.1,(⟨r_2.2.setting,r_2.2.now,r_2.2.done,r_2.2.wait,r_2.2.back,run.log⟩:Run))
 else
 bg (((run.log.length+[(⟨3,r_1,(⟨0,0⟩:Part),0⟩:av)].length)*48≤140737488355328)∧(run.log.length+[(⟨3,r_1,(⟨0,0⟩:Part),0⟩:av)].length≤4611686018427387904)) (
 some (0,(⟨r_2.2.setting,r_2.2.now,(IntKind.wrap .i64 (r_2.2.done - 1)),false,true,(run.log++[(⟨3,r_1,(⟨0,0⟩:Part),0⟩:av)])⟩:Run))))
def qj (x:Part) (kind:Int) (run:Run):Option (Int × Run):=
 (eF run).bind fun r_=>
 bif (!decide (r_=0))then
 some (r_,run)
 else
 (dN run.setting.plant run.now x).bind fun r_1=>
 bif (!decide (r_1.2=0))then
 some (r_1.2,run)
 else
 bg (((run.log.length+[(⟨kind,(⟨0,0⟩:aj),x,0⟩:av)].length)*48≤140737488355328)∧(run.log.length+[(⟨kind,(⟨0,0⟩:aj),x,0⟩:av)].length≤4611686018427387904)) (
 some (0,(⟨run.setting,r_1.1,run.done,run.wait,run.back,(run.log++[(⟨kind,(⟨0,0⟩:aj),x,0⟩:av)])⟩:Run)))
def gF (x:Part) (run:Run):Option (Int × Run):=
 (qj x 4 run).bind fun r_=>
 some (r_.1,r_.2)
def mR (x:Part) (kind:Int) (run:Run):Option (Int × Run):=
 (eF run).bind fun r_=>
 bif (!decide (r_=0))then
 some (r_,run)
 else
 (d9 run.setting.plant run.now x).bind fun r_1=>
 bif (!decide (r_1.2=0))then
 some (r_1.2,run)
 else
 bg (((run.log.length+[(⟨kind,(⟨0,0⟩:aj),x,0⟩:av)].length)*48≤140737488355328)∧(run.log.length+[(⟨kind,(⟨0,0⟩:aj),x,0⟩:av)].length≤4611686018427387904)) (
 some (0,(⟨run.setting,r_1.1,run.done,run.wait,run.back,(run.log++[(⟨kind,(⟨0,0⟩:aj),x,0⟩:av)])⟩:Run)))
def gH (x:Part) (run:Run):Option (Int × Run):=
 (mR x 5 run).bind fun r_=>
 some (r_.1,r_.2)
def fE (run:Run):Option (State × Int):=
 (dm run).bind fun r_=>
 bif r_ then
 some ((⟨([]:List Bool),([]:List Bool),([]:List Bool),([]:List Bool),([]:List Bool),([]:List Bool),([]:List Bool)⟩:State),5)
 else
 (dK run.now).bind fun r_1=>
 some (r_1,0)
def lF (run:Run):Option ((List av) × Int):=
 (dm run).bind fun r_=>
 bif r_ then
 some (([]:List av),5)
 else
 bg (((0:Int)≤(run.log.length:Int))∧((48:Int)*(run.log.length:Int)≤281474976710656)∧(((run.log.length:Int):Int)≤9223372036854775807)) (
 some (run.log,0))
def mI:Option Bool:=
 (wU).bind fun r_=>
 (di r_.1 r_.2.1 (⟨([]:List Int),([]:List Int),([]:List aj),([]:List aj)⟩:Task) r_.2.2).bind fun r_1=>
 bif r_1.1 then
 bif (bif (bif (!decide (r_1.2.2.1=0))then true else(!decide (r_1.2.1=2)))then true else false)then
 some false
 else
 (dz r_1.2.2.2).bind fun r_2=>
 (dz r_2.2).bind fun r_3=>
 (gY 7 r_3.2).bind fun r_4=>
 (dz r_4.2).bind fun r_5=>
 (fT r_5.2).bind fun r_6=>
 bg (gB [((bif (bif (bif (bif (bif (!decide (r_2.1=0))then true else(!decide (r_3.1=130)))then true else(!decide (r_4.1=0)))then true else(!decide (r_5.1=0)))then true else(!decide (r_6.2=0)))then true else(!decide ((r_6.1.length:Int)=1))),false)]=true→(0:Int)≤0∧0<(r_6.1.length:Int)) (
 bif (bif (bif (bif (bif (bif (bif (!decide (r_2.1=0))then true else(!decide (r_3.1=130)))then true else(!decide (r_4.1=0)))then true else(!decide (r_5.1=0)))then true else(!decide (r_6.2=0)))then true else(!decide ((r_6.1.length:Int)=1)))then true else(!((decide (((at' r_6.1 0).rack)=0)) && ((decide (((at' r_6.1 0).event)=0)) && true))))then
 some false
 else
 (bU r_5.2).bind fun r_7=>
 (gF (⟨3,0⟩:Part) r_7.2).bind fun r_8=>
 (bU r_8.2).bind fun r_9=>
 (gH (⟨3,0⟩:Part) r_9.2).bind fun r_10=>
 bif (bif (bif (bif (!decide (r_7.1=0))then true else(!decide (r_8.1=0)))then true else(!decide (r_9.1=47)))then true else(!decide (r_10.1=0)))then
 some false
 else
 (bU r_10.2).bind fun r_11=>
 bif (!decide (r_11.1=0))then
 some false
 else
 (bU r_11.2).bind fun r_12=>
 bif (!decide (r_12.1=4))then
 some false
 else
 (dz r_12.2).bind fun r_13=>
 bif (!decide (r_13.1=9))then
 some false
 else
 (fE r_13.2).bind fun r_14=>
 (lF r_13.2).bind fun r_15=>
 (bif gB [((bif (decide (r_14.2=0))then(decide (r_15.2=0))else false),true)]then iH r_14.1 r_.2.1 else some default).bind fun r_16=>
 some (bif (bif (bif (decide (r_14.2=0))then(decide (r_15.2=0))else false)then r_16 else false)then(decide ((r_15.1.length:Int)=7))else false))
 else
 some false
def nN (l:(List Int)):Option (List Int):=
 bg ((l.length*8≤140737488355328)∧(l.length≤4611686018427387904)) (
 some l)
def mM (l:(List aj)):Option (List aj):=
 bg ((l.length*16≤140737488355328)∧(l.length≤4611686018427387904)) (
 some l)
def lX (t:Task):Option Task:=
 (nN t.fed).bind fun r_=>
 (nN t.crew).bind fun r_1=>
 (mM t.allowed).bind fun r_2=>
 (mM t.goal).bind fun r_3=>
 some (⟨r_,r_1,r_2,r_3⟩:Task)
def gW (l:(List Item)):((List Item) × Int)→Option (dh ((List Item) × Int) (Ex (List Item) (List Item))):=
 fun zz=>match zz with
 |(out,i)=>
 bif (decide (i<(l.length:Int)))then
 bg (((0:Int)≤i∧i<(l.length:Int))∧((out.length+[(⟨((at' l i.toNat).step),(at' l i.toNat).ack⟩:Item)].length)*24≤140737488355328)∧(out.length+[(⟨((at' l i.toNat).step),(at' l i.toNat).ack⟩:Item)].length≤4611686018427387904)) (
 some (.next ((out++[(⟨((at' l i.toNat).step),(at' l i.toNat).ack⟩:Item)]),(IntKind.wrap .i64 (i+1)))))
 else
 some (.done (.brk out))
def kC (l:(List Item)):Option (List Item):=
 Option.bind (aV (gW l) FUEL (([]:List Item),0)) fun o=>match o with
 | .ret v=>some v
 | .brk out1=>
 some out1
def vW (x:Int) (n:Int):Option Int:=
 bif (decide (n<1))then
 some 0
 else
 bg (n≠(0:Int)) (
 bif (decide ((Int.tmod x n)<0))then
 some (IntKind.wrap .i64 ((Int.tmod x n)+n))
 else
 some (Int.tmod x n))
def iJ (x:av):Option Bool:=
 bif (decide (x.kind=1))then
 bif (decide (x.kind=1))then
 some ((decide (x.kind=x.kind)) && ((decide (x.step.deed=x.step.deed)) && ((decide (x.step.index=x.step.index)) && ((decide (x.part.kind=0)) && ((decide (x.part.index=0)) && ((decide (x.who=0)) && true))))))
 else
 bif (decide (x.kind=2))then
 some ((decide (x.kind=x.kind)) && ((decide (x.step.deed=0)) && ((decide (x.step.index=0)) && ((decide (x.part.kind=0)) && ((decide (x.part.index=0)) && ((decide (x.who=x.who)) && true))))))
 else
 bif (decide (x.kind=4))then
 bif (decide (x.kind=4))then
 some ((decide (x.kind=x.kind)) && ((decide (x.step.deed=0)) && ((decide (x.step.index=0)) && ((decide (x.part.kind=x.part.kind)) && ((decide (x.part.index=x.part.index)) && ((decide (x.who=0)) && true))))))
 else
 some false
 else
 bif (decide (x.kind=5))then
 some ((decide (x.kind=x.kind)) && ((decide (x.step.deed=0)) && ((decide (x.step.index=0)) && ((decide (x.part.kind=x.part.kind)) && ((decide (x.part.index=x.part.index)) && ((decide (x.who=0)) && true))))))
 else
 some false
 else
 bif (decide (x.kind=3))then
 some ((decide (x.kind=x.kind)) && ((decide (x.step.deed=x.step.deed)) && ((decide (x.step.index=x.step.index)) && ((decide (x.part.kind=0)) && ((decide (x.part.index=0)) && ((decide (x.who=0)) && true))))))
 else
 bif (decide (x.kind=2))then
 some ((decide (x.kind=x.kind)) && ((decide (x.step.deed=0)) && ((decide (x.step.index=0)) && ((decide (x.part.kind=0)) && ((decide (x.part.index=0)) && ((decide (x.who=x.who)) && true))))))
 else
 bif (decide (x.kind=4))then
 bif (decide (x.kind=4))then
 some ((decide (x.kind=x.kind)) && ((decide (x.step.deed=0)) && ((decide (x.step.index=0)) && ((decide (x.part.kind=x.part.kind)) && ((decide (x.part.index=x.part.index)) && ((decide (x.who=0)) && true))))))
 else
 some false
 else
 bif (decide (x.kind=5))then
 some ((decide (x.kind=x.kind)) && ((decide (x.step.deed=0)) && ((decide (x.step.index=0)) && ((decide (x.part.kind=x.part.kind)) && ((decide (x.part.index=x.part.index)) && ((decide (x.who=0)) && true))))))
 else
 some false
def qh:Option Unit:=
 some ()
def nX (x:av) (run:Run):Option (Int × Run):=
 (dz run).bind fun r_=>
 some (r_.1,r_.2)
def lM (x:av) (run:Run):Option (Int × Run):=
 (gY x.who run).bind fun r_=>
 some (r_.1,r_.2)
def lT (x:av) (run:Run):Option (Int × Run):=
 (bU run).bind fun r_=>
 some (r_.1,r_.2)
def kP (x:av) (run:Run):Option (Int × Run):=
 (gF x.part run).bind fun r_=>
 some (r_.1,r_.2)
def kR (x:av) (run:Run):Option (Int × Run):=
 (gH x.part run).bind fun r_=>
 some (r_.1,r_.2)
def dU (log:(List av)):(Run × Int)→Option (dh (Run × Int) (Ex Run (Bool × Int × Int × Run))):=
 fun zz=>match zz with
 |(r_1,t37)=>
 bif (decide (t37<(log.length:Int)))then
 bg ((0:Int)≤t37∧t37<(log.length:Int)) (
 (iJ (⟨(at' log t37.toNat).kind,((at' log t37.toNat).step),((at' log t37.toNat).part),(at' log t37.toNat).who⟩:av)).bind fun r_3=>
 bif (!r_3)then
 some (.done (.ret (false,t37,3,(default:Run))))
 else
 (qh).bind fun r_4=>
 bif (aP ((at' log t37.toNat).kind) 1)then
 (nX (⟨(at' log t37.toNat).kind,((at' log t37.toNat).step),((at' log t37.toNat).part),(at' log t37.toNat).who⟩:av) r_1).bind fun r_5=>
 bif (!decide (r_5.1=0))then
 some (.done (.ret (false,t37,r_5.1,(default:Run))))
 else
 bg ((0:Int)≤t37∧t37<(r_5.2.log.length:Int)) (
 bif (!((decide (((at' r_5.2.log t37.toNat).kind)=((at' log t37.toNat).kind))) && ((decide ((((at' r_5.2.log t37.toNat).step).deed)=(((at' log t37.toNat).step).deed))) && ((decide ((((at' r_5.2.log t37.toNat).step).index)=(((at' log t37.toNat).step).index))) && ((decide ((((at' r_5.2.log t37.toNat).part).kind)=(((at' log t37.toNat).part).kind))) && ((decide ((((at' r_5.2.log t37.toNat).part).index)=(((at' log t37.toNat).part).index))) && ((decide (((at' r_5.2.log t37.toNat).who)=((at' log t37.toNat).who))) && true)))))))then
 some (.done (.ret (false,t37,3,(default:Run))))
 else
 some (.next (r_5.2,(IntKind.wrap .i64 (t37+1)))))
 else
 bif (aP ((at' log t37.toNat).kind) 2)then
 (lM (⟨(at' log t37.toNat).kind,((at' log t37.toNat).step),((at' log t37.toNat).part),(at' log t37.toNat).who⟩:av) r_1).bind fun r_6=>
 bif (!decide (r_6.1=0))then
 some (.done (.ret (false,t37,r_6.1,(default:Run))))
 else
 bg ((0:Int)≤t37∧t37<(r_6.2.log.length:Int)) (
 bif (!((decide (((at' r_6.2.log t37.toNat).kind)=((at' log t37.toNat).kind))) && ((decide ((((at' r_6.2.log t37.toNat).step).deed)=(((at' log t37.toNat).step).deed))) && ((decide ((((at' r_6.2.log t37.toNat).step).index)=(((at' log t37.toNat).step).index))) && ((decide ((((at' r_6.2.log t37.toNat).part).kind)=(((at' log t37.toNat).part).kind))) && ((decide ((((at' r_6.2.log t37.toNat).part).index)=(((at' log t37.toNat).part).index))) && ((decide (((at' r_6.2.log t37.toNat).who)=((at' log t37.toNat).who))) && true)))))))then
 some (.done (.ret (false,t37,3,(default:Run))))
 else
 some (.next (r_6.2,(IntKind.wrap .i64 (t37+1)))))
 else
 bif (aP ((at' log t37.toNat).kind) 3)then
 (lT (⟨(at' log t37.toNat).kind,((at' log t37.toNat).step),((at' log t37.toNat).part),(at' log t37.toNat).who⟩:av) r_1).bind fun r_7=>
 bif (!decide (r_7.1=0))then
 some (.done (.ret (false,t37,r_7.1,(default:Run))))
 else
 bg ((0:Int)≤t37∧t37<(r_7.2.log.length:Int)) (
 bif (!((decide (((at' r_7.2.log t37.toNat).kind)=((at' log t37.toNat).kind))) && ((decide ((((at' r_7.2.log t37.toNat).step).deed)=(((at' log t37.toNat).step).deed))) && ((decide ((((at' r_7.2.log t37.toNat).step).index)=(((at' log t37.toNat).step).index))) && ((decide ((((at' r_7.2.log t37.toNat).part).kind)=(((at' log t37.toNat).part).kind))) && ((decide ((((at' r_7.2.log t37.toNat).part).index)=(((at' log t37.toNat).part).index))) && ((decide (((at' r_7.2.log t37.toNat).who)=((at' log t37.toNat).who))) && true)))))))then
 some (.done (.ret (false,t37,3,(default:Run))))
 else
 some (.next (r_7.2,(IntKind.wrap .i64 (t37+1)))))
 else
 bif (aP ((at' log t37.toNat).kind) 4)then
 (kP (⟨(at' log t37.toNat).kind,((at' log t37.toNat).step),((at' log t37.toNat).part),(at' log t37.toNat).who⟩:av) r_1).bind fun r_8=>
 bif (!decide (r_8.1=0))then
 some (.done (.ret (false,t37,r_8.1,(default:Run))))
 else
 bg ((0:Int)≤t37∧t37<(r_8.2.log.length:Int)) (
 bif (!((decide (((at' r_8.2.log t37.toNat).kind)=((at' log t37.toNat).kind))) && ((decide ((((at' r_8.2.log t37.toNat).step).deed)=(((at' log t37.toNat).step).deed))) && ((decide ((((at' r_8.2.log t37.toNat).step).index)=(((at' log t37.toNat).step).index))) && ((decide ((((at' r_8.2.log t37.toNat).part).kind)=(((at' log t37.toNat).part).kind))) && ((decide ((((at' r_8.2.log t37.toNat).part).index)=(((at' log t37.toNat).part).index))) && ((decide (((at' r_8.2.log t37.toNat).who)=((at' log t37.toNat).who))) && true)))))))then
 some (.done (.ret (false,t37,3,(default:Run))))
 else
 some (.next (r_8.2,(IntKind.wrap .i64 (t37+1)))))
 else
 bif (aP ((at' log t37.toNat).kind) 5)then
 (kR (⟨(at' log t37.toNat).kind,((at' log t37.toNat).step),((at' log t37.toNat).part),(at' log t37.toNat).who⟩:av) r_1).bind fun r_9=>
 bif (!decide (r_9.1=0))then
 some (.done (.ret (false,t37,r_9.1,(default:Run))))
 else
 bg ((0:Int)≤t37∧t37<(r_9.2.log.length:Int)) (
 bif (!((decide (((at' r_9.2.log t37.toNat).kind)=((at' log t37.toNat).kind))) && ((decide ((((at' r_9.2.log t37.toNat).step).deed)=(((at' log t37.toNat).step).deed))) && ((decide ((((at' r_9.2.log t37.toNat).step).index)=(((at' log t37.toNat).step).index))) && ((decide ((((at' r_9.2.log t37.toNat).part).kind)=(((at' log t37.toNat).part).kind))) && ((decide ((((at' r_9.2.log t37.toNat).part).index)=(((at' log t37.toNat).part).index))) && ((decide (((at' r_9.2.log t37.toNat).who)=((at' log t37.toNat).who))) && true)))))))then
 some (.done (.ret (false,t37,3,(default:Run))))
 else
 some (.next (r_9.2,(IntKind.wrap .i64 (t37+1)))))
 else
 none)
 else
 some (.done (.brk r_1))
def jG (p:ay) (s_:State) (t:Task) (l:(List Item)) (log:(List av)):Option (Bool × Int × Int × Run):=
 (di p s_ t l).bind fun r_=>
 bif r_.1 then
 bif (!decide (r_.2.2.1=0))then
 some (false,r_.2.1,r_.2.2.1,(default:Run))
 else
 bif (decide (1000<(log.length:Int)))then
 some (false,0,2,(default:Run))
 else
 Option.bind (aV (dU log) FUEL (r_.2.2.2,0)) fun o=>match o with
 | .ret v=>some v
 | .brk r_2=>
 some (true,(log.length:Int),0,r_2)
 else
 bg ((!decide (r_.2.2.1=0))=true) (
 some (false,r_.2.1,r_.2.2.1,(default:Run)))
def iM (run:Run):Option (Status × Int):=
 (dm run).bind fun r_=>
 bif r_ then
 some ((⟨0,0,false,false⟩:Status),5)
 else
 some ((⟨run.done,(IntKind.wrap .i64 ((run.setting.items.length:Int) - run.done)),run.wait,run.back⟩:Status),0)
def eG (log:(List Event)):(Run × Int)→Option (dh (Run × Int) (Ex Run Bool)):=
 fun zz=>match zz with
 |(r_5,i)=>
 bif (decide (i<(log.length:Int)))then
 Option.bind (α:=Run) (
 (vW ((at' log i.toNat).kind) 5).bind fun r_8=>
 bg ((0:Int)≤i∧i<(log.length:Int)) (
 bif (decide (r_8=0))then
 (dz r_5).bind fun r_9=>
 some r_9.2
 else
 bif (decide (r_8=1))then
 (gY ((at' log i.toNat).who) r_5).bind fun r_10=>
 bg ((0:Int)≤i∧i<(log.length:Int)) (
 some r_10.2)
 else
 bif (decide (r_8=2))then
 (bU r_5).bind fun r_11=>
 some r_11.2
 else
 bif (decide (r_8=3))then
 (gF ((at' log i.toNat).part) r_5).bind fun r_12=>
 bg ((0:Int)≤i∧i<(log.length:Int)) (
 some r_12.2)
 else
 bif (decide (r_8=4))then
 (gH ((at' log i.toNat).part) r_5).bind fun r_13=>
 bg ((0:Int)≤i∧i<(log.length:Int)) (
 some r_13.2)
 else
 some r_5)) fun r_7=>
 some (.next (r_7,(IntKind.wrap .i64 (i+1))))
 else
 some (.done (.brk r_5))
def dM (p:ay) (s_:State) (t:Task) (l:(List Item)) (r_14:((List av) × Int)) (r_23:((List eY) × Int)) (i1:Int):Int→Option (dh Int (Ex Unit (dh Int (Ex Unit Bool)))):=
 fun kz=>
 bif (decide (kz≤(r_14.1.length:Int)))then
 (lX t).bind fun r_25=>
 (kC l).bind fun r_26=>
 (jG p s_ r_25 r_26 (BV r_14.1 0 kz.toNat)).bind fun r_27=>
 bif r_27.1 then
 bg ((0:Int)≤kz∧kz≤(r_14.1.length:Int)) (
 bif (bif (!decide (r_27.2.2.1=0))then true else false)then
 some (.done (.ret (.done (.ret false))))
 else
 (fE r_27.2.2.2).bind fun r_28=>
 (jL p r_28.1).bind fun r_29=>
 bg ((gB [((bif (bif (!decide (r_28.2=0))then true else(!decide (r_29.2=0)))then true else(!decide ((r_29.1.length:Int)=(p.racks.length:Int)))),false)]=true→(0:Int)≤i1∧i1<(r_23.1.length:Int))∧(gB [((bif (bif (!decide (r_28.2=0))then true else(!decide (r_29.2=0)))then true else(!decide ((r_29.1.length:Int)=(p.racks.length:Int)))),false)]=true→(0:Int)≤(at' r_23.1 i1.toNat).rack∧(at' r_23.1 i1.toNat).rack<(r_29.1.length:Int))∧(gB [((at' r_29.1 (((at' r_23.1 i1.toNat).rack).toNat)).e0,false),((bif (bif (!decide (r_28.2=0))then true else(!decide (r_29.2=0)))then true else(!decide ((r_29.1.length:Int)=(p.racks.length:Int)))),false)]=true→(0:Int)≤i1∧i1<(r_23.1.length:Int))∧(gB [((at' r_29.1 (((at' r_23.1 i1.toNat).rack).toNat)).e0,false),((bif (bif (!decide (r_28.2=0))then true else(!decide (r_29.2=0)))then true else(!decide ((r_29.1.length:Int)=(p.racks.length:Int)))),false)]=true→(0:Int)≤(at' r_23.1 i1.toNat).rack∧(at' r_23.1 i1.toNat).rack<(r_29.1.length:Int))) (
 bif (bif (bif (bif (!decide (r_28.2=0))then true else(!decide (r_29.2=0)))then true else(!decide ((r_29.1.length:Int)=(p.racks.length:Int))))then true else(!((bif (at' r_29.1 (((at' r_23.1 i1.toNat).rack).toNat)).e0 then true else(at' r_29.1 (((at' r_23.1 i1.toNat).rack).toNat)).e1)==(decide (kz=((at' r_23.1 i1.toNat).event))))))then
 some (.done (.ret (.done (.ret false))))
 else
 some (.next (IntKind.wrap .i64 (kz+1)))))
 else
 bg ((0:Int)≤kz∧kz≤(r_14.1.length:Int)) (
 some (.done (.ret (.done (.ret false)))))
 else
 some (.done (.brk ()))
def fP (p:ay) (s_:State) (t:Task) (l:(List Item)) (r_14:((List av) × Int)) (r_23:((List eY) × Int)) (r_24:((List eY) × Int)):Int→Option (dh Int (Ex Unit Bool)):=
 fun i1=>
 bif (decide (i1<(r_23.1.length:Int)))then
 bg (((0:Int)≤i1∧i1<(r_23.1.length:Int))∧((0:Int)≤i1∧i1<(r_24.1.length:Int))∧(gB [((!((decide (((at' r_23.1 i1.toNat).rack)=((at' r_24.1 i1.toNat).rack))) && ((decide (((at' r_23.1 i1.toNat).event)=((at' r_24.1 i1.toNat).event))) && true))),false)]=true→(0:Int)≤i1∧i1<(r_23.1.length:Int))∧(gB [((bif (!((decide (((at' r_23.1 i1.toNat).rack)=((at' r_24.1 i1.toNat).rack))) && ((decide (((at' r_23.1 i1.toNat).event)=((at' r_24.1 i1.toNat).event))) && true)))then true else(decide (((at' r_23.1 i1.toNat).event)<0))),false)]=true→(0:Int)≤i1∧i1<(r_23.1.length:Int))∧(gB [((bif (bif (!((decide (((at' r_23.1 i1.toNat).rack)=((at' r_24.1 i1.toNat).rack))) && ((decide (((at' r_23.1 i1.toNat).event)=((at' r_24.1 i1.toNat).event))) && true)))then true else(decide (((at' r_23.1 i1.toNat).event)<0)))then true else(decide ((r_14.1.length:Int)≤((at' r_23.1 i1.toNat).event)))),false)]=true→(0:Int)≤i1∧i1<(r_23.1.length:Int))∧(gB [((bif (bif (bif (!((decide (((at' r_23.1 i1.toNat).rack)=((at' r_24.1 i1.toNat).rack))) && ((decide (((at' r_23.1 i1.toNat).event)=((at' r_24.1 i1.toNat).event))) && true)))then true else(decide (((at' r_23.1 i1.toNat).event)<0)))then true else(decide ((r_14.1.length:Int)≤((at' r_23.1 i1.toNat).event))))then true else(decide (((at' r_23.1 i1.toNat).rack)<0))),false)]=true→(0:Int)≤i1∧i1<(r_23.1.length:Int))) (
 bif (bif (bif (bif (bif (!((decide (((at' r_23.1 i1.toNat).rack)=((at' r_24.1 i1.toNat).rack))) && ((decide (((at' r_23.1 i1.toNat).event)=((at' r_24.1 i1.toNat).event))) && true)))then true else(decide (((at' r_23.1 i1.toNat).event)<0)))then true else(decide ((r_14.1.length:Int)≤((at' r_23.1 i1.toNat).event))))then true else(decide (((at' r_23.1 i1.toNat).rack)<0)))then true else(decide ((p.racks.length:Int)≤((at' r_23.1 i1.toNat).rack))))then
 some (.done (.ret false))
 else
 bg ((0:Int)≤i1∧i1<(r_23.1.length:Int)) (
 Option.bind (aV (dM p s_ t l r_14 r_23 i1) FUEL (at' r_23.1 i1.toNat).event) fun o=>match o with
 | .ret v=>some v
 | .brk _=>
 some (.next (IntKind.wrap .i64 (i1+1)))))
 else
 some (.done (.brk ()))
def kS (p:ay) (s_:State) (t:Task) (l:(List Item)) (log:(List Event)):Option Bool:=
 (pW p t l).bind fun r_=>
 bif (bif r_ then true else(decide (40<(log.length:Int))))then
 (mI).bind fun r_1=>
 some r_1
 else
 (lX t).bind fun r_2=>
 (kC l).bind fun r_3=>
 (di p s_ r_2 r_3).bind fun r_4=>
 bif r_4.1 then
 bif (bif (!decide (r_4.2.2.1=0))then true else false)then
 some false
 else
 Option.bind (aV (eG log) FUEL (r_4.2.2.2,0)) fun o=>match o with
 | .ret v=>some v
 | .brk r_6=>
 (lF r_6).bind fun r_14=>
 (lX t).bind fun r_15=>
 (kC l).bind fun r_16=>
 (jG p s_ r_15 r_16 r_14.1).bind fun r_17=>
 bif r_17.1 then
 bif (bif (bif (bif (!decide (r_14.2=0))then true else(!decide (r_17.2.2.1=0)))then true else(!decide (r_17.2.1=(r_14.1.length:Int))))then true else false)then
 some false
 else
 (iM r_6).bind fun r_18=>
 (iM r_17.2.2.2).bind fun r_19=>
 (fE r_6).bind fun r_20=>
 (fE r_17.2.2.2).bind fun r_21=>
 (bif gB [((bif (bif (bif (bif (!decide (r_18.2=0))then true else(!decide (r_19.2=0)))then true else(!decide (r_20.2=0)))then true else(!decide (r_21.2=0)))then true else(!((decide (r_18.1.done=r_19.1.done)) && ((decide (r_18.1.left=r_19.1.left)) && ((r_18.1.waiting==r_19.1.waiting) && ((r_18.1.back==r_19.1.back) && true)))))),false)]then iH r_20.1 r_21.1 else some default).bind fun r_22=>
 bif (bif (bif (bif (bif (bif (!decide (r_18.2=0))then true else(!decide (r_19.2=0)))then true else(!decide (r_20.2=0)))then true else(!decide (r_21.2=0)))then true else(!((decide (r_18.1.done=r_19.1.done)) && ((decide (r_18.1.left=r_19.1.left)) && ((r_18.1.waiting==r_19.1.waiting) && ((r_18.1.back==r_19.1.back) && true))))))then true else(!r_22))then
 some false
 else
 (fT r_6).bind fun r_23=>
 (fT r_17.2.2.2).bind fun r_24=>
 bif (bif (bif (!decide (r_23.2=0))then true else(!decide (r_24.2=0)))then true else(!decide ((r_23.1.length:Int)=(r_24.1.length:Int))))then
 some false
 else
 Option.bind (aV (fP p s_ t l r_14 r_23 r_24) FUEL (0)) fun o=>match o with
 | .ret v=>some v
 | .brk _=>
 (mI).bind fun r_30=>
 some r_30
 else
 some false
 else
 (bif gB [((!decide (r_4.2.2.1=0)),true)]then mI else some default).bind fun r_31=>
 some (bif (!decide (r_4.2.2.1=0))then r_31 else false)
end Sg
