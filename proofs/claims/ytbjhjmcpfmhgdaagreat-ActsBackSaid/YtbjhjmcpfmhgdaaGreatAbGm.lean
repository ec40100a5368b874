import Derived.Test.YtbjhjmcpfmhgdaaGreatAbLe
set_option linter.all false
namespace Sg
open Go
structure State where
 closed:(List Bool)
 locked:(List Bool)
 badLink:(List Bool)
 on_:(List Bool)
 badSource:(List Bool)
 earthed:(List Bool)
 badBus:(List Bool)
instance:Inhabited State:=⟨⟨default,default,default,default,default,default,default⟩⟩
def State.cell (x:State):Nat→DV
 |0=>(aA none 1 af x.closed)
 |1=>(aA none 1 af x.locked)
 |2=>(aA none 1 af x.badLink)
 |3=>(aA none 1 af x.on_)
 |4=>(aA none 1 af x.badSource)
 |5=>(aA none 1 af x.earthed)
 |6=>(aA none 1 af x.badBus)
 |_=> .nilp
structure Source where
 bus:Int
 kind:Int
 power:Int
 sync:Int
 ohm:Int
instance:Inhabited Source:=⟨⟨default,default,default,default,default⟩⟩
def Source.cell (x:Source):Nat→DV
 |0=>(.int .i64 x.bus)
 |1=>(.int .i64 x.kind)
 |2=>(.int .i64 x.power)
 |3=>(.int .i64 x.sync)
 |4=>(.int .i64 x.ohm)
 |_=> .nilp
structure dJ where
 amps:Int
 millis:Int
instance:Inhabited dJ:=⟨⟨default,default⟩⟩
def dJ.cell (x:dJ):Nat→DV
 |0=>(.int .i64 x.amps)
 |1=>(.int .i64 x.millis)
 |_=> .nilp
structure Link where
 a:Int
 b:Int
 kind:Int
 most:Int
 ohm:Int
 trip:(List dJ)
instance:Inhabited Link:=⟨⟨default,default,default,default,default,default⟩⟩
def Link.cell (x:Link):Nat→DV
 |0=>(.int .i64 x.a)
 |1=>(.int .i64 x.b)
 |2=>(.int .i64 x.kind)
 |3=>(.int .i64 x.most)
 |4=>(.int .i64 x.ohm)
 |5=>(aA none 2 dJ.cell x.trip)
 |_=> .nilp
structure aN where
 e0:Int
 e1:Int
instance:Inhabited aN:=⟨⟨default,default⟩⟩
def aN.cell (x:aN):Nat→DV
 |0=>(.int .i64 x.e0)
 |1=>(.int .i64 x.e1)
 |_=> .nilp
structure aJ where
 feeds:aN
 power:Int
 paths:Int
instance:Inhabited aJ:=⟨⟨default,default,default⟩⟩
def aJ.cell (x:aJ):Nat→DV
 |0=>(.int .i64 x.feeds.e0)
 |1=>(.int .i64 x.feeds.e1)
 |2=>(.int .i64 x.power)
 |3=>(.int .i64 x.paths)
 |_=> .nilp
structure av where
 buses:Int
 sources:(List Source)
 links:(List Link)
 racks:(List aJ)
instance:Inhabited av:=⟨⟨default,default,default,default⟩⟩
def av.cell (x:av):Nat→DV
 |0=>(.int .i64 x.buses)
 |1=>(aA none 5 Source.cell x.sources)
 |2=>(aA none 6 Link.cell x.links)
 |3=>(aA none 4 aJ.cell x.racks)
 |_=> .nilp
structure aj where
 deed:Int
 index:Int
instance:Inhabited aj:=⟨⟨default,default⟩⟩
def aj.cell (x:aj):Nat→DV
 |0=>(.int .i64 x.deed)
 |1=>(.int .i64 x.index)
 |_=> .nilp
structure Task where
 fed:(List Int)
 crew:(List Int)
 allowed:(List aj)
 goal:(List aj)
instance:Inhabited Task:=⟨⟨default,default,default,default⟩⟩
def Task.cell (x:Task):Nat→DV
 |0=>(aA none 1 (aT .i64) x.fed)
 |1=>(aA none 1 (aT .i64) x.crew)
 |2=>(aA none 2 aj.cell x.allowed)
 |3=>(aA none 2 aj.cell x.goal)
 |_=> .nilp
structure Item where
 step:aj
 ack:Bool
instance:Inhabited Item:=⟨⟨default,default⟩⟩
def Item.cell (x:Item):Nat→DV
 |0=>(.int .i64 x.step.deed)
 |1=>(.int .i64 x.step.index)
 |2=>(.bool x.ack)
 |_=> .nilp
structure bZ where
 l:(List Bool)
 n:Int
instance:Inhabited bZ:=⟨⟨default,default⟩⟩
def bZ.cell (x:bZ):Nat→DV
 |0=>(aA none 1 af x.l)
 |1=>(.int .i64 x.n)
 |_=> .nilp
structure aY where
 head:(List (Int × Int))
instance:Inhabited aY:=⟨⟨default⟩⟩
def aY.cell (x:aY):Nat→DV
 |0=> .nilp
 |_=> .nilp
structure aH where
 buses:(List Int)
 sources:(List Int)
instance:Inhabited aH:=⟨⟨default,default⟩⟩
def aH.cell (x:aH):Nat→DV
 |0=>(aA none 1 (aT .i64) x.buses)
 |1=>(aA none 1 (aT .i64) x.sources)
 |_=> .nilp
structure ax where
 e0:Bool
 e1:Bool
instance:Inhabited ax:=⟨⟨default,default⟩⟩
def ax.cell (x:ax):Nat→DV
 |0=>(.bool x.e0)
 |1=>(.bool x.e1)
 |_=> .nilp
structure Part where
 kind:Int
 index:Int
instance:Inhabited Part:=⟨⟨default,default⟩⟩
def Part.cell (x:Part):Nat→DV
 |0=>(.int .i64 x.kind)
 |1=>(.int .i64 x.index)
 |_=> .nilp
structure aD where
 kind:Int
 step:aj
 part:Part
 who:Int
instance:Inhabited aD:=⟨⟨default,default,default,default⟩⟩
def aD.cell (x:aD):Nat→DV
 |0=>(.int .i64 x.kind)
 |1=>(.int .i64 x.step.deed)
 |2=>(.int .i64 x.step.index)
 |3=>(.int .i64 x.part.kind)
 |4=>(.int .i64 x.part.index)
 |5=>(.int .i64 x.who)
 |_=> .nilp
structure Setting where
 plant:av
 begin:State
 task:Task
 items:(List Item)
instance:Inhabited Setting:=⟨⟨default,default,default,default⟩⟩
def Setting.cell (x:Setting):Nat→DV
 |0=>(.int .i64 x.plant.buses)
 |1=>(aA none 5 Source.cell x.plant.sources)
 |2=>(aA none 6 Link.cell x.plant.links)
 |3=>(aA none 4 aJ.cell x.plant.racks)
 |4=>(aA none 1 af x.begin.closed)
 |5=>(aA none 1 af x.begin.locked)
 |6=>(aA none 1 af x.begin.badLink)
 |7=>(aA none 1 af x.begin.on_)
 |8=>(aA none 1 af x.begin.badSource)
 |9=>(aA none 1 af x.begin.earthed)
 |10=>(aA none 1 af x.begin.badBus)
 |11=>(aA none 1 (aT .i64) x.task.fed)
 |12=>(aA none 1 (aT .i64) x.task.crew)
 |13=>(aA none 2 aj.cell x.task.allowed)
 |14=>(aA none 2 aj.cell x.task.goal)
 |15=>(aA none 3 Item.cell x.items)
 |_=> .nilp
structure Run where
 setting:Setting
 now:State
 done:Int
 wait:Bool
 back:Bool
 log:(List aD)
instance:Inhabited Run:=⟨⟨default,default,default,default,default,default⟩⟩
def Run.cell (x:Run):Nat→DV
 |0=>(wC [(.int .i64 x.setting.plant.buses),(aA none 5 Source.cell x.setting.plant.sources),(aA none 6 Link.cell x.setting.plant.links),(aA none 4 aJ.cell x.setting.plant.racks),(aA none 1 af x.setting.begin.closed),(aA none 1 af x.setting.begin.locked),(aA none 1 af x.setting.begin.badLink),(aA none 1 af x.setting.begin.on_),(aA none 1 af x.setting.begin.badSource),(aA none 1 af x.setting.begin.earthed),(aA none 1 af x.setting.begin.badBus),(aA none 1 (aT .i64) x.setting.task.fed),(aA none 1 (aT .i64) x.setting.task.crew),(aA none 2 aj.cell x.setting.task.allowed),(aA none 2 aj.cell x.setting.task.goal),(aA none 3 Item.cell x.setting.items)] 0)
 |1=>(aA none 1 af x.now.closed)
 |2=>(aA none 1 af x.now.locked)
 |3=>(aA none 1 af x.now.badLink)
 |4=>(aA none 1 af x.now.on_)
 |5=>(aA none 1 af x.now.badSource)
 |6=>(aA none 1 af x.now.earthed)
 |7=>(aA none 1 af x.now.badBus)
 |8=>(.int .i64 x.done)
 |9=>(.bool x.wait)
 |10=>(.bool x.back)
 |11=>(aA none 6 aD.cell x.log)
 |_=> .nilp
structure iK where
 rack:Int
 event:Int
instance:Inhabited iK:=⟨⟨default,default⟩⟩
def iK.cell (x:iK):Nat→DV
 |0=>(.int .i64 x.rack)
 |1=>(.int .i64 x.event)
 |_=> .nilp
structure Status where
 done:Int
 left:Int
 waiting:Bool
 back:Bool
instance:Inhabited Status:=⟨⟨default,default,default,default⟩⟩
def Status.cell (x:Status):Nat→DV
 |0=>(.int .i64 x.done)
 |1=>(.int .i64 x.left)
 |2=>(.bool x.waiting)
 |3=>(.bool x.back)
 |_=> .nilp
def aH.ev (x:aH):Nat→EV
 |0=> .row 3 1 x.buses.length (aB (aT .i64) x.buses)
 |1=> .row 3 1 x.sources.length (aB (aT .i64) x.sources)
 |_=> .d .nilp
def iR (a:(List Bool)) (b:(List Bool)):Int→Option (dz Int (Ex Unit Bool)):=
 fun i=>
 bif (decide (i<(a.length:Int)))then
 bg (((0:Int)≤i∧i<(a.length:Int))∧((0:Int)≤i∧i<(b.length:Int))) (
 bif (!((at' a i.toNat)==(at' b i.toNat)))then
 some (.done (.ret false))
 else
 some (.next (IntKind.wrap .i64 (i+1))))
 else
 some (.done (.brk ()))
def di (a:(List Bool)) (b:(List Bool)):Option Bool:=
 bif (!decide ((a.length:Int)=(b.length:Int)))then
 some false
 else
 Option.bind (aV (iR a b) FUEL (0)) fun o=>match o with
 | .ret v=>some v
 | .brk _=>
 some true
def gV (a:State) (b:State):Option Bool:=
 (di a.closed b.closed).bind fun r_=>
 (bif gB [(r_,true)]then di a.locked b.locked else some default).bind fun r_1=>
 (bif gB [((bif r_ then r_1 else false),true)]then di a.badLink b.badLink else some default).bind fun r_2=>
 (bif gB [((bif (bif r_ then r_1 else false)then r_2 else false),true)]then di a.on_ b.on_ else some default).bind fun r_3=>
 (bif gB [((bif (bif (bif r_ then r_1 else false)then r_2 else false)then r_3 else false),true)]then di a.badSource b.badSource else some default).bind fun r_4=>
 (bif gB [((bif (bif (bif (bif r_ then r_1 else false)then r_2 else false)then r_3 else false)then r_4 else false),true)]then di a.earthed b.earthed else some default).bind fun r_5=>
 (bif gB [((bif (bif (bif (bif (bif r_ then r_1 else false)then r_2 else false)then r_3 else false)then r_4 else false)then r_5 else false),true)]then di a.badBus b.badBus else some default).bind fun r_6=>
 some (bif (bif (bif (bif (bif (bif r_ then r_1 else false)then r_2 else false)then r_3 else false)then r_4 else false)then r_5 else false)then r_6 else false)
def oJ (p:av) (t:Task) (l:(List Item)):Option Bool:=
 some (bif (bif (bif (bif (bif (bif (bif (decide (60<(p.sources.length:Int)))then true else(decide (60<(p.links.length:Int))))then true else(decide (60<(p.racks.length:Int))))then true else(decide (60<(t.fed.length:Int))))then true else(decide (60<(t.crew.length:Int))))then true else(decide (60<(t.allowed.length:Int))))then true else(decide (60<(t.goal.length:Int))))then true else(decide (70<(l.length:Int))))
def aS (n:Int) (first:Int) (last:Int):Option Bool:=
 some (bif (decide (first≤n))then(decide (n≤last))else false)
def qO (p:av):Option (Int × (List Source) × (List Link) × (List aJ)):=
 some (p.buses,p.sources,p.links,p.racks)
def uQ (p:av):Option (Int × (List Source) × (List Link) × (List aJ)):=
 some (p.buses,p.sources,p.links,p.racks)
def vQ (p:av):Option (Int × (List Source) × (List Link) × (List aJ)):=
 some (p.buses,p.sources,p.links,p.racks)
def kN (x:Source) (x1:Int) (x11:(List Source)) (x12:(List Link)) (x13:(List aJ)):Option Bool:=
 (aS x.bus 0 (IntKind.wrap .i64 (x1 - 1))).bind fun r_=>
 (bif gB [(r_,true)]then aS x.kind 1 3 else some default).bind fun r_1=>
 (bif gB [((bif r_ then r_1 else false),true)]then aS x.power 1 100000 else some default).bind fun r_2=>
 (bif gB [((bif (bif r_ then r_1 else false)then r_2 else false),true)]then aS x.sync 0 8 else some default).bind fun r_3=>
 (bif gB [((bif (bif (bif r_ then r_1 else false)then r_2 else false)then r_3 else false),true)]then aS x.ohm 10 100000 else some default).bind fun r_4=>
 some (bif (bif (bif (bif r_ then r_1 else false)then r_2 else false)then r_3 else false)then r_4 else false)
def qN (x:Source) (x1:Int) (x11:(List Source)) (x12:(List Link)) (x13:(List aJ)):Option Bool:=
 (kN x x1 x11 x12 x13).bind fun r_=>
 some (!r_)
def jR (s_:(List Source)) (f_:Int) (f_1:(List Source)) (f_2:(List Link)) (f_3:(List aJ)):Int→Option (dz Int (Ex Unit Int)):=
 fun t8=>
 bif (decide (t8<(s_.length:Int)))then
 (qN (at' s_ t8.toNat) f_ f_1 f_2 f_3).bind fun r_=>
 bg ((0:Int)≤t8∧t8<(s_.length:Int)) (
 bif r_ then
 some (.done (.ret t8))
 else
 some (.next (IntKind.wrap .i64 (t8+1))))
 else
 some (.done (.brk ()))
def lU (s_:(List Source)) (f_:Int) (f_1:(List Source)) (f_2:(List Link)) (f_3:(List aJ)):Option Int:=
 Option.bind (aV (jR s_ f_ f_1 f_2 f_3) FUEL (0)) fun o=>match o with
 | .ret v=>some v
 | .brk _=>
 some (-1)
def gL (s_:(List Source)) (f_:Int) (f_1:(List Source)) (f_2:(List Link)) (f_3:(List aJ)):Option Bool:=
 (lU s_ f_ f_1 f_2 f_3).bind fun r_=>
 some (decide (0≤r_))
def p8 (l:(List Source)) (most:Int) (right:Int) (right1:(List Source)) (right2:(List Link)) (right3:(List aJ)):Option Bool:=
 (bif gB [((decide ((l.length:Int)≤most)),true)]then gL l right right1 right2 right3 else some default).bind fun r_=>
 some (bif (decide ((l.length:Int)≤most))then(!r_)else false)
def j4 (x:Link):Int→Option (dz Int (Ex Unit Bool)):=
 fun t50=>
 bif (decide (t50<(x.trip.length:Int)))then
 bg ((0:Int)≤t50∧t50<(x.trip.length:Int)) (
 (aS ((at' x.trip t50.toNat).amps) 1 1000000).bind fun r_5=>
 (bif gB [((!r_5),false)]then aS ((at' x.trip t50.toNat).millis) 1 100000 else some default).bind fun r_6=>
 bg ((gB [((decide (0<t50)),true),((bif (!r_5)then true else(!r_6)),false)]=true→(0:Int)≤(IntKind.wrap .i64 (t50 - 1))∧(IntKind.wrap .i64 (t50 - 1))<(x.trip.length:Int))∧(gB [((decide (((at' x.trip t50.toNat).amps)≤((at' x.trip ((IntKind.wrap .i64 (t50 - 1)).toNat)).amps))),false),((decide (0<t50)),true),((bif (!r_5)then true else(!r_6)),false)]=true→(0:Int)≤(IntKind.wrap .i64 (t50 - 1))∧(IntKind.wrap .i64 (t50 - 1))<(x.trip.length:Int))) (
 bif (bif (bif (!r_5)then true else(!r_6))then true else(bif (decide (0<t50))then(bif (decide (((at' x.trip t50.toNat).amps)≤((at' x.trip ((IntKind.wrap .i64 (t50 - 1)).toNat)).amps)))then true else(decide (((at' x.trip ((IntKind.wrap .i64 (t50 - 1)).toNat)).millis)≤((at' x.trip t50.toNat).millis))))else false))then
 some (.done (.ret false))
 else
 some (.next (IntKind.wrap .i64 (t50+1)))))
 else
 some (.done (.brk ()))
def nD (x:Link) (x1:Int) (x11:(List Source)) (x12:(List Link)) (x13:(List aJ)):Option Bool:=
 (aS x.a 0 (IntKind.wrap .i64 (x1 - 1))).bind fun r_=>
 (bif gB [((!r_),false)]then aS x.b 0 (IntKind.wrap .i64 (x1 - 1))else some default).bind fun r_1=>
 (bif gB [((bif (bif (!r_)then true else(!r_1))then true else(decide (x.a=x.b))),false)]then aS x.kind 1 3 else some default).bind fun r_2=>
 (bif gB [((bif (bif (bif (!r_)then true else(!r_1))then true else(decide (x.a=x.b)))then true else(!r_2)),false)]then aS x.most 1 100000 else some default).bind fun r_3=>
 (bif gB [((bif (bif (bif (bif (!r_)then true else(!r_1))then true else(decide (x.a=x.b)))then true else(!r_2))then true else(!r_3)),false)]then aS x.ohm 10 100000 else some default).bind fun r_4=>
 bif (bif (bif (bif (bif (bif (!r_)then true else(!r_1))then true else(decide (x.a=x.b)))then true else(!r_2))then true else(!r_3))then true else(!r_4))then
 some false
 else
 Option.bind (aV (j4 x) FUEL (0)) fun o=>match o with
 | .ret v=>some v
 | .brk _=>
 some (bif (decide ((x.trip.length:Int)≤6))then(bif (decide ((x.trip.length:Int)=0))then true else(decide (x.kind=3)))else false)
def mK (x:Link) (x1:Int) (x11:(List Source)) (x12:(List Link)) (x13:(List aJ)):Option Bool:=
 (nD x x1 x11 x12 x13).bind fun r_=>
 some (!r_)
def iJ (s_:(List Link)) (f_:Int) (f_1:(List Source)) (f_2:(List Link)) (f_3:(List aJ)):Int→Option (dz Int (Ex Unit Int)):=
 fun t8=>
 bif (decide (t8<(s_.length:Int)))then
 (mK (at' s_ t8.toNat) f_ f_1 f_2 f_3).bind fun r_=>
 bg ((0:Int)≤t8∧t8<(s_.length:Int)) (
 bif r_ then
 some (.done (.ret t8))
 else
 some (.next (IntKind.wrap .i64 (t8+1))))
 else
 some (.done (.brk ()))
def jU (s_:(List Link)) (f_:Int) (f_1:(List Source)) (f_2:(List Link)) (f_3:(List aJ)):Option Int:=
 Option.bind (aV (iJ s_ f_ f_1 f_2 f_3) FUEL (0)) fun o=>match o with
 | .ret v=>some v
 | .brk _=>
 some (-1)
def fw (s_:(List Link)) (f_:Int) (f_1:(List Source)) (f_2:(List Link)) (f_3:(List aJ)):Option Bool:=
 (jU s_ f_ f_1 f_2 f_3).bind fun r_=>
 some (decide (0≤r_))
def mM (l:(List Link)) (most:Int) (right:Int) (right1:(List Source)) (right2:(List Link)) (right3:(List aJ)):Option Bool:=
 (bif gB [((decide ((l.length:Int)≤most)),true)]then fw l right right1 right2 right3 else some default).bind fun r_=>
 some (bif (decide ((l.length:Int)≤most))then(!r_)else false)
def ou (x:aJ):Option Int:=
 bif (decide (x.feeds.e1=(-1)))then
 some 1
 else
 some 2
def mD (x:aJ) (x1:Int) (x11:(List Source)) (x12:(List Link)) (x13:(List aJ)):Option Bool:=
 (aS x.feeds.e0 0 (IntKind.wrap .i64 (x1 - 1))).bind fun r_=>
 (bif gB [(r_,true)]then aS x.feeds.e1 (-1) (IntKind.wrap .i64 (x1 - 1))else some default).bind fun r_1=>
 (bif gB [((bif (bif r_ then r_1 else false)then(!decide (x.feeds.e0=x.feeds.e1))else false),true)]then aS x.power 1 100000 else some default).bind fun r_2=>
 (bif gB [((bif (bif (bif r_ then r_1 else false)then(!decide (x.feeds.e0=x.feeds.e1))else false)then r_2 else false),true)]then ou x else some default).bind fun r_3=>
 (bif gB [((bif (bif (bif r_ then r_1 else false)then(!decide (x.feeds.e0=x.feeds.e1))else false)then r_2 else false),true)]then aS x.paths 0 r_3 else some default).bind fun r_4=>
 some (bif (bif (bif (bif r_ then r_1 else false)then(!decide (x.feeds.e0=x.feeds.e1))else false)then r_2 else false)then r_4 else false)
def mU (x:aJ) (x1:Int) (x11:(List Source)) (x12:(List Link)) (x13:(List aJ)):Option Bool:=
 (mD x x1 x11 x12 x13).bind fun r_=>
 some (!r_)
def iE (s_:(List aJ)) (f_:Int) (f_1:(List Source)) (f_2:(List Link)) (f_3:(List aJ)):Int→Option (dz Int (Ex Unit Int)):=
 fun t8=>
 bif (decide (t8<(s_.length:Int)))then
 (mU (⟨((at' s_ t8.toNat).feeds),(at' s_ t8.toNat).power,(at' s_ t8.toNat).paths⟩:aJ) f_ f_1 f_2 f_3).bind fun r_=>
 bg ((0:Int)≤t8∧t8<(s_.length:Int)) (
 bif r_ then
 some (.done (.ret t8))
 else
 some (.next (IntKind.wrap .i64 (t8+1))))
 else
 some (.done (.brk ()))
def jS (s_:(List aJ)) (f_:Int) (f_1:(List Source)) (f_2:(List Link)) (f_3:(List aJ)):Option Int:=
 Option.bind (aV (iE s_ f_ f_1 f_2 f_3) FUEL (0)) fun o=>match o with
 | .ret v=>some v
 | .brk _=>
 some (-1)
def fA (s_:(List aJ)) (f_:Int) (f_1:(List Source)) (f_2:(List Link)) (f_3:(List aJ)):Option Bool:=
 (jS s_ f_ f_1 f_2 f_3).bind fun r_=>
 some (decide (0≤r_))
def mE (l:(List aJ)) (most:Int) (right:Int) (right1:(List Source)) (right2:(List Link)) (right3:(List aJ)):Option Bool:=
 (bif gB [((decide ((l.length:Int)≤most)),true)]then fA l right right1 right2 right3 else some default).bind fun r_=>
 some (bif (decide ((l.length:Int)≤most))then(!r_)else false)
def oq (p:av):Option Int:=
 (aS p.buses 1 24).bind fun r_=>
 bif (!r_)then
 some 10
 else
 (qO p).bind fun r_1=>
 (p8 p.sources 8 r_1.1 r_1.2.1 r_1.2.2.1 r_1.2.2.2).bind fun r_2=>
 bif (!r_2)then
 some 11
 else
 (uQ p).bind fun r_3=>
 (mM p.links 40 r_3.1 r_3.2.1 r_3.2.2.1 r_3.2.2.2).bind fun r_4=>
 bif (!r_4)then
 some 12
 else
 (vQ p).bind fun r_5=>
 (mE p.racks 24 r_5.1 r_5.2.1 r_5.2.2.1 r_5.2.2.2).bind fun r_6=>
 bif (!r_6)then
 some 13
 else
 some 0
def gK (p:av) (s_:State):Int→Option (dz Int (Ex Unit Int)):=
 fun t55=>
 bif (decide (t55<([(⟨s_.closed,(p.links.length:Int)⟩:bZ),(⟨s_.locked,(p.links.length:Int)⟩:bZ),(⟨s_.badLink,(p.links.length:Int)⟩:bZ),(⟨s_.on_,(p.sources.length:Int)⟩:bZ),(⟨s_.badSource,(p.sources.length:Int)⟩:bZ),(⟨s_.earthed,p.buses⟩:bZ),(⟨s_.badBus,p.buses⟩:bZ)].length:Int)))then
 bg ((0:Int)≤t55∧t55<([(⟨s_.closed,(p.links.length:Int)⟩:bZ),(⟨s_.locked,(p.links.length:Int)⟩:bZ),(⟨s_.badLink,(p.links.length:Int)⟩:bZ),(⟨s_.on_,(p.sources.length:Int)⟩:bZ),(⟨s_.badSource,(p.sources.length:Int)⟩:bZ),(⟨s_.earthed,p.buses⟩:bZ),(⟨s_.badBus,p.buses⟩:bZ)].length:Int)) (
 bif (!decide ((((at' [(⟨s_.closed,(p.links.length:Int)⟩:bZ),(⟨s_.locked,(p.links.length:Int)⟩:bZ),(⟨s_.badLink,(p.links.length:Int)⟩:bZ),(⟨s_.on_,(p.sources.length:Int)⟩:bZ),(⟨s_.badSource,(p.sources.length:Int)⟩:bZ),(⟨s_.earthed,p.buses⟩:bZ),(⟨s_.badBus,p.buses⟩:bZ)] t55.toNat).l).length:Int)=((at' [(⟨s_.closed,(p.links.length:Int)⟩:bZ),(⟨s_.locked,(p.links.length:Int)⟩:bZ),(⟨s_.badLink,(p.links.length:Int)⟩:bZ),(⟨s_.on_,(p.sources.length:Int)⟩:bZ),(⟨s_.badSource,(p.sources.length:Int)⟩:bZ),(⟨s_.earthed,p.buses⟩:bZ),(⟨s_.badBus,p.buses⟩:bZ)] t55.toNat).n)))then
 some (.done (.ret 9))
 else
 some (.next (IntKind.wrap .i64 (t55+1))))
 else
 some (.done (.brk ()))
def gN (p:av) (s_:State):Int→Option (dz Int (Ex Unit Int)):=
 fun t69=>
 bif (decide (t69<(p.links.length:Int)))then
 bg ((0:Int)≤t69∧t69<(p.links.length:Int)) (
 bg ((gB [((decide (((at' p.links t69.toNat).kind)=1)),true)]=true→(0:Int)≤t69∧t69<(s_.closed.length:Int))∧(gB [((!(at' s_.closed t69.toNat)),false),((decide (((at' p.links t69.toNat).kind)=1)),true)]=true→(0:Int)≤t69∧t69<(s_.locked.length:Int))) (
 bif (bif (decide (((at' p.links t69.toNat).kind)=1))then(bif (!(at' s_.closed t69.toNat))then true else(at' s_.locked t69.toNat))else false)then
 some (.done (.ret 9))
 else
 some (.next (IntKind.wrap .i64 (t69+1)))))
 else
 some (.done (.brk ()))
def cK (p:av) (s_:State):Option Int:=
 (oq p).bind fun r_=>
 bif (!decide (r_=0))then
 some r_
 else
 Option.bind (aV (gK p s_) FUEL (0)) fun o=>match o with
 | .ret v=>some v
 | .brk _=>
 Option.bind (aV (gN p s_) FUEL (0)) fun o=>match o with
 | .ret v=>some v
 | .brk _=>
 some 0
def lT (i:Int) (x1:Int):Option Bool:=
 some (bif (decide (i<0))then true else(decide (x1≤i)))
def iH (s_:(List Int)) (f_:Int):Int→Option (dz Int (Ex Unit Int)):=
 fun t8=>
 bif (decide (t8<(s_.length:Int)))then
 (lT (at' s_ t8.toNat) f_).bind fun r_=>
 bg ((0:Int)≤t8∧t8<(s_.length:Int)) (
 bif r_ then
 some (.done (.ret t8))
 else
 some (.next (IntKind.wrap .i64 (t8+1))))
 else
 some (.done (.brk ()))
def jV (s_:(List Int)) (f_:Int):Option Int:=
 Option.bind (aV (iH s_ f_) FUEL (0)) fun o=>match o with
 | .ret v=>some v
 | .brk _=>
 some (-1)
def fG (s_:(List Int)) (f_:Int):Option Bool:=
 (jV s_ f_).bind fun r_=>
 some (decide (0≤r_))
def iY (l:(List Int)) (n:Int):Option Bool:=
 (bif gB [((decide ((l.length:Int)≤24)),true)]then fG l n else some default).bind fun r_=>
 some (bif (decide ((l.length:Int)≤24))then(!r_)else false)
def kD (p:av) (x:aj):Option Bool:=
 bif (decide (x.deed=1))then
 bif (decide (x.deed=1))then
 bg (gB [((bif (decide (0≤x.index))then(decide (x.index<(p.links.length:Int)))else false),true)]=true→(0:Int)≤x.index∧x.index<(p.links.length:Int)) (
 some (bif (bif (decide (0≤x.index))then(decide (x.index<(p.links.length:Int)))else false)then(!decide (((at' p.links x.index.toNat).kind)=1))else false))
 else
 bif (decide (x.deed=3))then
 bif (decide (x.deed=3))then
 some (bif (decide (0≤x.index))then(decide (x.index<p.buses))else false)
 else
 bif (decide (x.deed=7))then
 bif (decide (x.deed=7))then
 some (bif (decide (0≤x.index))then(decide (x.index<(p.sources.length:Int)))else false)
 else
 bg (gB [((bif (decide (0≤x.index))then(decide (x.index<0))else false),true)]=true→(0:Int)≤x.index∧x.index<(p.links.length:Int)) (
 some (bif (bif (decide (0≤x.index))then(decide (x.index<0))else false)then(!decide (((at' p.links x.index.toNat).kind)=1))else false))
 else
 bif (decide (x.deed=8))then
 some (bif (decide (0≤x.index))then(decide (x.index<(p.sources.length:Int)))else false)
 else
 bg (gB [((bif (decide (0≤x.index))then(decide (x.index<0))else false),true)]=true→(0:Int)≤x.index∧x.index<(p.links.length:Int)) (
 some (bif (bif (decide (0≤x.index))then(decide (x.index<0))else false)then(!decide (((at' p.links x.index.toNat).kind)=1))else false))
 else
 bif (decide (x.deed=4))then
 some (bif (decide (0≤x.index))then(decide (x.index<p.buses))else false)
 else
 bif (decide (x.deed=7))then
 bif (decide (x.deed=7))then
 some (bif (decide (0≤x.index))then(decide (x.index<(p.sources.length:Int)))else false)
 else
 bg (gB [((bif (decide (0≤x.index))then(decide (x.index<0))else false),true)]=true→(0:Int)≤x.index∧x.index<(p.links.length:Int)) (
 some (bif (bif (decide (0≤x.index))then(decide (x.index<0))else false)then(!decide (((at' p.links x.index.toNat).kind)=1))else false))
 else
 bif (decide (x.deed=8))then
 some (bif (decide (0≤x.index))then(decide (x.index<(p.sources.length:Int)))else false)
 else
 bg (gB [((bif (decide (0≤x.index))then(decide (x.index<0))else false),true)]=true→(0:Int)≤x.index∧x.index<(p.links.length:Int)) (
 some (bif (bif (decide (0≤x.index))then(decide (x.index<0))else false)then(!decide (((at' p.links x.index.toNat).kind)=1))else false))
 else
 bif (decide (x.deed=2))then
 bif (decide (x.deed=2))then
 bg (gB [((bif (decide (0≤x.index))then(decide (x.index<(p.links.length:Int)))else false),true)]=true→(0:Int)≤x.index∧x.index<(p.links.length:Int)) (
 some (bif (bif (decide (0≤x.index))then(decide (x.index<(p.links.length:Int)))else false)then(!decide (((at' p.links x.index.toNat).kind)=1))else false))
 else
 bif (decide (x.deed=3))then
 bif (decide (x.deed=3))then
 some (bif (decide (0≤x.index))then(decide (x.index<p.buses))else false)
 else
 bif (decide (x.deed=7))then
 bif (decide (x.deed=7))then
 some (bif (decide (0≤x.index))then(decide (x.index<(p.sources.length:Int)))else false)
 else
 bg (gB [((bif (decide (0≤x.index))then(decide (x.index<0))else false),true)]=true→(0:Int)≤x.index∧x.index<(p.links.length:Int)) (
 some (bif (bif (decide (0≤x.index))then(decide (x.index<0))else false)then(!decide (((at' p.links x.index.toNat).kind)=1))else false))
 else
 bif (decide (x.deed=8))then
 some (bif (decide (0≤x.index))then(decide (x.index<(p.sources.length:Int)))else false)
 else
 bg (gB [((bif (decide (0≤x.index))then(decide (x.index<0))else false),true)]=true→(0:Int)≤x.index∧x.index<(p.links.length:Int)) (
 some (bif (bif (decide (0≤x.index))then(decide (x.index<0))else false)then(!decide (((at' p.links x.index.toNat).kind)=1))else false))
 else
 bif (decide (x.deed=4))then
 some (bif (decide (0≤x.index))then(decide (x.index<p.buses))else false)
 else
 bif (decide (x.deed=7))then
 bif (decide (x.deed=7))then
 some (bif (decide (0≤x.index))then(decide (x.index<(p.sources.length:Int)))else false)
 else
 bg (gB [((bif (decide (0≤x.index))then(decide (x.index<0))else false),true)]=true→(0:Int)≤x.index∧x.index<(p.links.length:Int)) (
 some (bif (bif (decide (0≤x.index))then(decide (x.index<0))else false)then(!decide (((at' p.links x.index.toNat).kind)=1))else false))
 else
 bif (decide (x.deed=8))then
 some (bif (decide (0≤x.index))then(decide (x.index<(p.sources.length:Int)))else false)
 else
 bg (gB [((bif (decide (0≤x.index))then(decide (x.index<0))else false),true)]=true→(0:Int)≤x.index∧x.index<(p.links.length:Int)) (
 some (bif (bif (decide (0≤x.index))then(decide (x.index<0))else false)then(!decide (((at' p.links x.index.toNat).kind)=1))else false))
 else
 bif (decide (x.deed=5))then
 bif (decide (x.deed=5))then
 bg (gB [((bif (decide (0≤x.index))then(decide (x.index<(p.links.length:Int)))else false),true)]=true→(0:Int)≤x.index∧x.index<(p.links.length:Int)) (
 some (bif (bif (decide (0≤x.index))then(decide (x.index<(p.links.length:Int)))else false)then(!decide (((at' p.links x.index.toNat).kind)=1))else false))
 else
 bif (decide (x.deed=3))then
 bif (decide (x.deed=3))then
 some (bif (decide (0≤x.index))then(decide (x.index<p.buses))else false)
 else
 bif (decide (x.deed=7))then
 bif (decide (x.deed=7))then
 some (bif (decide (0≤x.index))then(decide (x.index<(p.sources.length:Int)))else false)
 else
 bg (gB [((bif (decide (0≤x.index))then(decide (x.index<0))else false),true)]=true→(0:Int)≤x.index∧x.index<(p.links.length:Int)) (
 some (bif (bif (decide (0≤x.index))then(decide (x.index<0))else false)then(!decide (((at' p.links x.index.toNat).kind)=1))else false))
 else
 bif (decide (x.deed=8))then
 some (bif (decide (0≤x.index))then(decide (x.index<(p.sources.length:Int)))else false)
 else
 bg (gB [((bif (decide (0≤x.index))then(decide (x.index<0))else false),true)]=true→(0:Int)≤x.index∧x.index<(p.links.length:Int)) (
 some (bif (bif (decide (0≤x.index))then(decide (x.index<0))else false)then(!decide (((at' p.links x.index.toNat).kind)=1))else false))
 else
 bif (decide (x.deed=4))then
 some (bif (decide (0≤x.index))then(decide (x.index<p.buses))else false)
 else
 bif (decide (x.deed=7))then
 bif (decide (x.deed=7))then
 some (bif (decide (0≤x.index))then(decide (x.index<(p.sources.length:Int)))else false)
 else
 bg (gB [((bif (decide (0≤x.index))then(decide (x.index<0))else false),true)]=true→(0:Int)≤x.index∧x.index<(p.links.length:Int)) (
 some (bif (bif (decide (0≤x.index))then(decide (x.index<0))else false)then(!decide (((at' p.links x.index.toNat).kind)=1))else false))
 else
 bif (decide (x.deed=8))then
 some (bif (decide (0≤x.index))then(decide (x.index<(p.sources.length:Int)))else false)
 else
 bg (gB [((bif (decide (0≤x.index))then(decide (x.index<0))else false),true)]=true→(0:Int)≤x.index∧x.index<(p.links.length:Int)) (
 some (bif (bif (decide (0≤x.index))then(decide (x.index<0))else false)then(!decide (((at' p.links x.index.toNat).kind)=1))else false))
 else
 bif (decide (x.deed=6))then
 bg (gB [((bif (decide (0≤x.index))then(decide (x.index<(p.links.length:Int)))else false),true)]=true→(0:Int)≤x.index∧x.index<(p.links.length:Int)) (
 some (bif (bif (decide (0≤x.index))then(decide (x.index<(p.links.length:Int)))else false)then(!decide (((at' p.links x.index.toNat).kind)=1))else false))
 else
 bif (decide (x.deed=3))then
 bif (decide (x.deed=3))then
 some (bif (decide (0≤x.index))then(decide (x.index<p.buses))else false)
 else
 bif (decide (x.deed=7))then
 bif (decide (x.deed=7))then
 some (bif (decide (0≤x.index))then(decide (x.index<(p.sources.length:Int)))else false)
 else
 bg (gB [((bif (decide (0≤x.index))then(decide (x.index<0))else false),true)]=true→(0:Int)≤x.index∧x.index<(p.links.length:Int)) (
 some (bif (bif (decide (0≤x.index))then(decide (x.index<0))else false)then(!decide (((at' p.links x.index.toNat).kind)=1))else false))
 else
 bif (decide (x.deed=8))then
 some (bif (decide (0≤x.index))then(decide (x.index<(p.sources.length:Int)))else false)
 else
 bg (gB [((bif (decide (0≤x.index))then(decide (x.index<0))else false),true)]=true→(0:Int)≤x.index∧x.index<(p.links.length:Int)) (
 some (bif (bif (decide (0≤x.index))then(decide (x.index<0))else false)then(!decide (((at' p.links x.index.toNat).kind)=1))else false))
 else
 bif (decide (x.deed=4))then
 some (bif (decide (0≤x.index))then(decide (x.index<p.buses))else false)
 else
 bif (decide (x.deed=7))then
 bif (decide (x.deed=7))then
 some (bif (decide (0≤x.index))then(decide (x.index<(p.sources.length:Int)))else false)
 else
 bg (gB [((bif (decide (0≤x.index))then(decide (x.index<0))else false),true)]=true→(0:Int)≤x.index∧x.index<(p.links.length:Int)) (
 some (bif (bif (decide (0≤x.index))then(decide (x.index<0))else false)then(!decide (((at' p.links x.index.toNat).kind)=1))else false))
 else
 bif (decide (x.deed=8))then
 some (bif (decide (0≤x.index))then(decide (x.index<(p.sources.length:Int)))else false)
 else
 bg (gB [((bif (decide (0≤x.index))then(decide (x.index<0))else false),true)]=true→(0:Int)≤x.index∧x.index<(p.links.length:Int)) (
 some (bif (bif (decide (0≤x.index))then(decide (x.index<0))else false)then(!decide (((at' p.links x.index.toNat).kind)=1))else false))
def lS (x:aj) (x1:Int) (x11:(List Source)) (x12:(List Link)) (x13:(List aJ)):Option Bool:=
 (kD (⟨x1,x11,x12,x13⟩:av) x).bind fun r_=>
 some (!r_)
def iG (s_:(List aj)) (f_:Int) (f_1:(List Source)) (f_2:(List Link)) (f_3:(List aJ)):Int→Option (dz Int (Ex Unit Int)):=
 fun t8=>
 bif (decide (t8<(s_.length:Int)))then
 (lS (at' s_ t8.toNat) f_ f_1 f_2 f_3).bind fun r_=>
 bg ((0:Int)≤t8∧t8<(s_.length:Int)) (
 bif r_ then
 some (.done (.ret t8))
 else
 some (.next (IntKind.wrap .i64 (t8+1))))
 else
 some (.done (.brk ()))
def jT (s_:(List aj)) (f_:Int) (f_1:(List Source)) (f_2:(List Link)) (f_3:(List aJ)):Option Int:=
 Option.bind (aV (iG s_ f_ f_1 f_2 f_3) FUEL (0)) fun o=>match o with
 | .ret v=>some v
 | .brk _=>
 some (-1)
def fF (s_:(List aj)) (f_:Int) (f_1:(List Source)) (f_2:(List Link)) (f_3:(List aJ)):Option Bool:=
 (jT s_ f_ f_1 f_2 f_3).bind fun r_=>
 some (decide (0≤r_))
def iW (l:(List aj)) (x1:Int) (x11:(List Source)) (x12:(List Link)) (x13:(List aJ)):Option Bool:=
 (bif gB [((decide ((l.length:Int)≤24)),true)]then fF l x1 x11 x12 x13 else some default).bind fun r_=>
 some (bif (decide ((l.length:Int)≤24))then(!r_)else false)
def mF (p:av) (t:Task):Option Bool:=
 (iY t.fed (p.racks.length:Int)).bind fun r_=>
 (bif gB [(r_,true)]then iY t.crew p.buses else some default).bind fun r_1=>
 (bif gB [((bif r_ then r_1 else false),true)]then iW t.allowed p.buses p.sources p.links p.racks else some default).bind fun r_2=>
 (bif gB [((bif (bif r_ then r_1 else false)then r_2 else false),true)]then iW t.goal p.buses p.sources p.links p.racks else some default).bind fun r_3=>
 some (bif (bif (bif r_ then r_1 else false)then r_2 else false)then r_3 else false)
def jD (p:av) (s_:State):Option (Int × (List Source) × (List Link) × (List aJ) × (List Bool) × (List Bool) × (List Bool) × (List Bool) × (List Bool) × (List Bool) × (List Bool)):=
 some (p.buses,p.sources,p.links,p.racks,s_.closed,s_.locked,s_.badLink,s_.on_,s_.badSource,s_.earthed,s_.badBus)
def dW (g:aY):Int→Option (dz Int (Ex Unit Int)):=
 fun x1=>
 bif (!((bC aU x1 g.head).isSome))then
 some (.done (.ret x1))
 else
 some (.next ((bC aU x1 g.head).getD 0))
def cu (g:aY) (x:Int):Option Int:=
 Option.bind (aV (dW g) FUEL (x)) fun o=>match o with
 | .ret v=>some v
 | .brk _=>none
def iT (g:aY) (a:Int) (b:Int):Option (List (Int × Int)):=
 (cu g a).bind fun r_=>
 (cu g b).bind fun r_1=>
 bif (!decide (r_=r_1))then
 some (eB aU r_ r_1 g.head)
 else
 some g.head
def kI (x22:Int) (x221:Int) (x222:Int) (x223:Int) (x224:Int) (x225:(List dJ)) (o_:aY):Option aY:=
 (iT o_ x22 x221).bind fun r_=>
 some (⟨r_⟩:aY)
def dA (x12:(List Link)) (x2:(List Bool)) (x22:(List Bool)) (x26:(List Bool)):((List (Int × Int)) × Int)→Option (dz ((List (Int × Int)) × Int) (Ex (List (Int × Int)) aY)):=
 fun zz=>match zz with
 |(o50,t9)=>
 bif (decide (t9<(x12.length:Int)))then
 bg ((0:Int)≤t9∧t9<(x12.length:Int)) (
 bif (bif (bif (bif (at' x2 t9.toNat)then(!(at' x22 t9.toNat))else false)then(!(at' x26 (((at' x12 t9.toNat).a).toNat)))else false)then(!(at' x26 (((at' x12 t9.toNat).b).toNat)))else false)then
 (kI ((at' x12 t9.toNat).a) ((at' x12 t9.toNat).b) ((at' x12 t9.toNat).kind) ((at' x12 t9.toNat).most) ((at' x12 t9.toNat).ohm) ((at' x12 t9.toNat).trip) (⟨o50⟩:aY)).bind fun r_=>
 bg (((0:Int)≤t9∧t9<(x2.length:Int))∧(gB [((at' x2 t9.toNat),true)]=true→(0:Int)≤t9∧t9<(x22.length:Int))∧(gB [((bif (at' x2 t9.toNat)then(!(at' x22 t9.toNat))else false),true)]=true→(0:Int)≤(at' x12 t9.toNat).a∧(at' x12 t9.toNat).a<(x26.length:Int))∧(gB [((bif (bif (at' x2 t9.toNat)then(!(at' x22 t9.toNat))else false)then(!(at' x26 (((at' x12 t9.toNat).a).toNat)))else false),true)]=true→(0:Int)≤(at' x12 t9.toNat).b∧(at' x12 t9.toNat).b<(x26.length:Int))) (
 some (.next (r_.head,(IntKind.wrap .i64 (t9+1)))))
 else
 bg (((0:Int)≤t9∧t9<(x2.length:Int))∧(gB [((at' x2 t9.toNat),true)]=true→(0:Int)≤t9∧t9<(x22.length:Int))∧(gB [((bif (at' x2 t9.toNat)then(!(at' x22 t9.toNat))else false),true)]=true→(0:Int)≤(at' x12 t9.toNat).a∧(at' x12 t9.toNat).a<(x26.length:Int))∧(gB [((bif (bif (at' x2 t9.toNat)then(!(at' x22 t9.toNat))else false)then(!(at' x26 (((at' x12 t9.toNat).a).toNat)))else false),true)]=true→(0:Int)≤(at' x12 t9.toNat).b∧(at' x12 t9.toNat).b<(x26.length:Int))) (
 some (.next (o50,(IntKind.wrap .i64 (t9+1))))))
 else
 some (.done (.brk o50))
def kz (x1:Int) (x11:(List Source)) (x12:(List Link)) (x13:(List aJ)) (x2:(List Bool)) (x21:(List Bool)) (x22:(List Bool)) (x23:(List Bool)) (x24:(List Bool)) (x25:(List Bool)) (x26:(List Bool)) (o_:aY):Option aY:=
 Option.bind (aV (dA x12 x2 x22 x26) FUEL (o_.head,0)) fun o=>match o with
 | .ret v=>some v
 | .brk o501=>
 some (⟨o501⟩:aY)
def bM (p:av) (s_:State) (r_1:aY):((List aH) × (List (Int × Int)) × Int)→Option (dz ((List aH) × (List (Int × Int)) × Int) (Ex ((List aH) × (List (Int × Int))) (List aH))):=
 fun zz=>match zz with
 |(out,at_,t32)=>
 bif (decide (t32<p.buses))then
 bg ((0:Int)≤t32∧t32<(s_.badBus.length:Int)) (
 bif (at' s_.badBus t32.toNat)then
 some (.next (out,at_,(IntKind.wrap .i64 (t32+1))))
 else
 (cu r_1 t32).bind fun r_2=>
 bif (!((bC aU r_2 at_).isSome))then
 bg (((out.length+[(⟨([]:List Int),([]:List Int)⟩:aH)].length)*48≤140737488355328)∧(out.length+[(⟨([]:List Int),([]:List Int)⟩:aH)].length≤4611686018427387904)) (
 bg (((0:Int)≤((bC aU r_2 (eB aU r_2 (out.length:Int) at_)).getD 0)∧((bC aU r_2 (eB aU r_2 (out.length:Int) at_)).getD 0)<((out++[(⟨([]:List Int),([]:List Int)⟩:aH)]).length:Int))∧((((at' (out++[(⟨([]:List Int),([]:List Int)⟩:aH)]) (((bC aU r_2 (eB aU r_2 (out.length:Int) at_)).getD 0).toNat)).buses).length+[t32].length)*8≤140737488355328)∧(((at' (out++[(⟨([]:List Int),([]:List Int)⟩:aH)]) (((bC aU r_2 (eB aU r_2 (out.length:Int) at_)).getD 0).toNat)).buses).length+[t32].length≤4611686018427387904)) (
 some (.next (((out++[(⟨([]:List Int),([]:List Int)⟩:aH)]).set (((bC aU r_2 (eB aU r_2 (out.length:Int) at_)).getD 0).toNat) (⟨(((at' (out++[(⟨([]:List Int),([]:List Int)⟩:aH)]) (((bC aU r_2 (eB aU r_2 (out.length:Int) at_)).getD 0).toNat)).buses)++[t32]),(at' (out++[(⟨([]:List Int),([]:List Int)⟩:aH)]) (((bC aU r_2 (eB aU r_2 (out.length:Int) at_)).getD 0).toNat)).sources⟩:aH)),(eB aU r_2 (out.length:Int) at_),(IntKind.wrap .i64 (t32+1))))))
 else
 bg (((0:Int)≤((bC aU r_2 at_).getD 0)∧((bC aU r_2 at_).getD 0)<(out.length:Int))∧((((at' out (((bC aU r_2 at_).getD 0).toNat)).buses).length+[t32].length)*8≤140737488355328)∧(((at' out (((bC aU r_2 at_).getD 0).toNat)).buses).length+[t32].length≤4611686018427387904)) (
 some (.next ((out.set (((bC aU r_2 at_).getD 0).toNat) (⟨(((at' out (((bC aU r_2 at_).getD 0).toNat)).buses)++[t32]),(at' out (((bC aU r_2 at_).getD 0).toNat)).sources⟩:aH)),at_,(IntKind.wrap .i64 (t32+1))))))
 else
 some (.done (.brk (out,at_)))
def bN (p:av) (s_:State) (r_1:aY) (at_1:(List (Int × Int))):((List aH) × Int)→Option (dz ((List aH) × Int) (Ex (List aH) (List aH))):=
 fun zz=>match zz with
 |(out2,t78)=>
 bif (decide (t78<(p.sources.length:Int)))then
 bg ((0:Int)≤t78∧t78<(p.sources.length:Int)) (
 bg (((0:Int)≤t78∧t78<(s_.on_.length:Int))∧(gB [((at' s_.on_ t78.toNat),true)]=true→(0:Int)≤t78∧t78<(s_.badSource.length:Int))∧(gB [((bif (at' s_.on_ t78.toNat)then(!(at' s_.badSource t78.toNat))else false),true)]=true→(0:Int)≤(at' p.sources t78.toNat).bus∧(at' p.sources t78.toNat).bus<(s_.badBus.length:Int))) (
 bif (bif (bif (at' s_.on_ t78.toNat)then(!(at' s_.badSource t78.toNat))else false)then(!(at' s_.badBus (((at' p.sources t78.toNat).bus).toNat)))else false)then
 (cu r_1 ((at' p.sources t78.toNat).bus)).bind fun r_3=>
 bg (((0:Int)≤((bC aU r_3 at_1).getD 0)∧((bC aU r_3 at_1).getD 0)<(out2.length:Int))∧((((at' out2 (((bC aU r_3 at_1).getD 0).toNat)).sources).length+[t78].length)*8≤140737488355328)∧(((at' out2 (((bC aU r_3 at_1).getD 0).toNat)).sources).length+[t78].length≤4611686018427387904)) (
 some (.next ((out2.set (((bC aU r_3 at_1).getD 0).toNat) (⟨(at' out2 (((bC aU r_3 at_1).getD 0).toNat)).buses,(((at' out2 (((bC aU r_3 at_1).getD 0).toNat)).sources)++[t78])⟩:aH)),(IntKind.wrap .i64 (t78+1)))))
 else
 some (.next (out2,(IntKind.wrap .i64 (t78+1))))))
 else
 some (.done (.brk out2))
def eF (p:av) (s_:State):Option (List aH):=
 (jD p s_).bind fun r_=>
 (kz r_.1 r_.2.1 r_.2.2.1 r_.2.2.2.1 r_.2.2.2.2.1 r_.2.2.2.2.2.1 r_.2.2.2.2.2.2.1 r_.2.2.2.2.2.2.2.1 r_.2.2.2.2.2.2.2.2.1 r_.2.2.2.2.2.2.2.2.2.1 r_.2.2.2.2.2.2.2.2.2.2 (⟨([]:(List (Int × Int)))⟩:aY)).bind fun r_1=>
 Option.bind (aV (bM p s_ r_1) FUEL (([]:List aH),([]:(List (Int × Int))),0)) fun o=>match o with
 | .ret v=>some v
 | .brk (out1,at_1)=>
 Option.bind (aV (bN p s_ r_1 at_1) FUEL (out1,0)) fun o=>match o with
 | .ret v=>some v
 | .brk out3=>
 some out3
def jJ (r_1:(List aH)) (t25:Int):((List Bool) × Int)→Option (dz ((List Bool) × Int) (Ex (List Bool) (dz ((List Bool) × Int) (Ex (List Bool) ((List Bool) × Int))))):=
 fun zz=>match zz with
 |(out2,t32)=>
 bif (decide (t32<(((at' r_1 t25.toNat).buses).length:Int)))then
 bg ((0:Int)≤t32∧t32<(((at' r_1 t25.toNat).buses).length:Int)) (
 bg ((0:Int)≤(at' ((at' r_1 t25.toNat).buses) t32.toNat)∧(at' ((at' r_1 t25.toNat).buses) t32.toNat)<(out2.length:Int)) (
 some (.next ((out2.set ((at' ((at' r_1 t25.toNat).buses) t32.toNat).toNat) (decide (0<(((at' r_1 t25.toNat).sources).length:Int)))),(IntKind.wrap .i64 (t32+1))))))
 else
 some (.done (.brk out2))
def jK (r_1:(List aH)):((List Bool) × Int)→Option (dz ((List Bool) × Int) (Ex (List Bool) ((List Bool) × Int))):=
 fun zz=>match zz with
 |(out,t25)=>
 bif (decide (t25<(r_1.length:Int)))then
 bg ((0:Int)≤t25∧t25<(r_1.length:Int)) (
 Option.bind (aV (jJ r_1 t25) FUEL (out,0)) fun o=>match o with
 | .ret v=>some v
 | .brk out3=>
 some (.next (out3,(IntKind.wrap .i64 (t25+1)))))
 else
 some (.done (.brk out))
def fZ (p:av) (s_:State):Option ((List Bool) × Int):=
 (cK p s_).bind fun r_=>
 bif (!decide (r_=0))then
 some (([]:List Bool),r_)
 else
 bg (((0:Int)≤p.buses)∧((1:Int)*p.buses≤281474976710656)∧((p.buses:Int)≤9223372036854775807)) (
 (eF p s_).bind fun r_1=>
 Option.bind (aV (jK r_1) FUEL ((List.replicate p.buses.toNat (false:Bool)),0)) fun o=>match o with
 | .ret v=>some v
 | .brk out1=>
 some (out1,0))
def ja (p:av) (r_:((List Bool) × Int)):((List ax) × Int)→Option (dz ((List ax) × Int) (Ex (List ax) ((List ax) × Int))):=
 fun zz=>match zz with
 |(out,t26)=>
 bif (decide (t26<(p.racks.length:Int)))then
 bg ((0:Int)≤t26∧t26<(p.racks.length:Int)) (
 bg (gB [((decide (0≤(((at' p.racks t26.toNat).feeds).e0))),true)]=true→(0:Int)≤((at' p.racks t26.toNat).feeds).e0∧((at' p.racks t26.toNat).feeds).e0<(r_.1.length:Int)) (
 bg (gB [((decide (0≤(((at' p.racks t26.toNat).feeds).e1))),true)]=true→(0:Int)≤((at' p.racks t26.toNat).feeds).e1∧((at' p.racks t26.toNat).feeds).e1<(r_.1.length:Int)) (
 bg (((out.length+[(⟨(bif (decide (0≤(((at' p.racks t26.toNat).feeds).e0)))then(at' r_.1 ((((at' p.racks t26.toNat).feeds).e0).toNat))else false),(bif (decide (0≤(((at' p.racks t26.toNat).feeds).e1)))then(at' r_.1 ((((at' p.racks t26.toNat).feeds).e1).toNat))else false)⟩:ax)].length)*2≤140737488355328)∧(out.length+[(⟨(bif (decide (0≤(((at' p.racks t26.toNat).feeds).e0)))then(at' r_.1 ((((at' p.racks t26.toNat).feeds).e0).toNat))else false),(bif (decide (0≤(((at' p.racks t26.toNat).feeds).e1)))then(at' r_.1 ((((at' p.racks t26.toNat).feeds).e1).toNat))else false)⟩:ax)].length≤4611686018427387904)) (
 some (.next ((out++[(⟨(bif (decide (0≤(((at' p.racks t26.toNat).feeds).e0)))then(at' r_.1 ((((at' p.racks t26.toNat).feeds).e0).toNat))else false),(bif (decide (0≤(((at' p.racks t26.toNat).feeds).e1)))then(at' r_.1 ((((at' p.racks t26.toNat).feeds).e1).toNat))else false)⟩:ax)]),(IntKind.wrap .i64 (t26+1))))))))
 else
 some (.done (.brk out))
def oU (p:av) (s_:State):Option ((List ax) × Int):=
 (fZ p s_).bind fun r_=>
 bif (!decide (r_.2=0))then
 some (([]:List ax),r_.2)
 else
 Option.bind (aV (ja p r_) FUEL (([]:List ax),0)) fun o=>match o with
 | .ret v=>some v
 | .brk out1=>
 some (out1,0)
def bI (x y:aN):Int:=if x.e0<y.e0 then -1 else if y.e0<x.e0 then 1 else if x.e1<y.e1 then -1 else if y.e1<x.e1 then 1 else 0
def ic (s:(List aN)):Option (List aN):=match s with
 |[]=>some []
 |x::xs=>bif decide ((x::xs).length<4611686018427387904)then some ((x::xs).mergeSort fun x y=> !decide (bI y x<0))else none
def jh (p:av) (r_1:(List aH)) (t24:Int) (t31:Int):((List aN) × Int)→Option (dz ((List aN) × Int) (Ex (List aN) (dz ((List aN) × Int) (Ex (List aN) (dz ((List aN) × Int) (Ex (List aN) ((List aN) × Int))))))):=
 fun zz=>match zz with
 |(out4,t42)=>
 bif (decide (t42<(((((at' r_1 t24.toNat).sources).length - ((IntKind.wrap .i64 (t31+1)).toNat)):Nat):Int)))then
 bg ((0:Int)≤t42∧t42<((((at' r_1 t24.toNat).sources).drop ((IntKind.wrap .i64 (t31+1)).toNat)).length:Int)) (
 bg (((0:Int)≤(at' ((at' r_1 t24.toNat).sources) t31.toNat)∧(at' ((at' r_1 t24.toNat).sources) t31.toNat)<(p.sources.length:Int))∧(gB [((decide (((at' p.sources ((at' ((at' r_1 t24.toNat).sources) t31.toNat).toNat)).sync)=0)),false)]=true→(0:Int)≤(at' ((at' r_1 t24.toNat).sources) t31.toNat)∧(at' ((at' r_1 t24.toNat).sources) t31.toNat)<(p.sources.length:Int))∧(gB [((decide (((at' p.sources ((at' ((at' r_1 t24.toNat).sources) t31.toNat).toNat)).sync)=0)),false)]=true→(0:Int)≤(at' (((at' r_1 t24.toNat).sources).drop ((IntKind.wrap .i64 (t31+1)).toNat)) t42.toNat)∧(at' (((at' r_1 t24.toNat).sources).drop ((IntKind.wrap .i64 (t31+1)).toNat)) t42.toNat)<(p.sources.length:Int))) (
 bif (bif (decide (((at' p.sources ((at' ((at' r_1 t24.toNat).sources) t31.toNat).toNat)).sync)=0))then true else(!decide (((at' p.sources ((at' ((at' r_1 t24.toNat).sources) t31.toNat).toNat)).sync)=((at' p.sources ((at' (((at' r_1 t24.toNat).sources).drop ((IntKind.wrap .i64 (t31+1)).toNat)) t42.toNat).toNat)).sync))))then
 bg (((out4.length+[(⟨(at' ((at' r_1 t24.toNat).sources) t31.toNat),(at' (((at' r_1 t24.toNat).sources).drop ((IntKind.wrap .i64 (t31+1)).toNat)) t42.toNat)⟩:aN)].length)*16≤140737488355328)∧(out4.length+[(⟨(at' ((at' r_1 t24.toNat).sources) t31.toNat),(at' (((at' r_1 t24.toNat).sources).drop ((IntKind.wrap .i64 (t31+1)).toNat)) t42.toNat)⟩:aN)].length≤4611686018427387904)) (
 some (.next ((out4++[(⟨(at' ((at' r_1 t24.toNat).sources) t31.toNat),(at' (((at' r_1 t24.toNat).sources).drop ((IntKind.wrap .i64 (t31+1)).toNat)) t42.toNat)⟩:aN)]),(IntKind.wrap .i64 (t42+1)))))
 else
 some (.next (out4,(IntKind.wrap .i64 (t42+1))))))
 else
 some (.done (.brk out4))
def jv (p:av) (r_1:(List aH)) (t24:Int):((List aN) × Int)→Option (dz ((List aN) × Int) (Ex (List aN) (dz ((List aN) × Int) (Ex (List aN) ((List aN) × Int))))):=
 fun zz=>match zz with
 |(out2,t31)=>
 bif (decide (t31<(((at' r_1 t24.toNat).sources).length:Int)))then
 bg ((0:Int)≤t31∧t31<(((at' r_1 t24.toNat).sources).length:Int)) (
 bg ((0:Int)≤(IntKind.wrap .i64 (t31+1))∧(IntKind.wrap .i64 (t31+1))≤(((at' r_1 t24.toNat).sources).length:Int)) (
 Option.bind (aV (jh p r_1 t24 t31) FUEL (out2,0)) fun o=>match o with
 | .ret v=>some v
 | .brk out5=>
 some (.next (out5,(IntKind.wrap .i64 (t31+1))))))
 else
 some (.done (.brk out2))
def gJ (p:av) (r_1:(List aH)):((List aN) × Int)→Option (dz ((List aN) × Int) (Ex (List aN) ((List aN) × Int))):=
 fun zz=>match zz with
 |(out,t24)=>
 bif (decide (t24<(r_1.length:Int)))then
 bg ((0:Int)≤t24∧t24<(r_1.length:Int)) (
 Option.bind (aV (jv p r_1 t24) FUEL (out,0)) fun o=>match o with
 | .ret v=>some v
 | .brk out3=>
 some (.next (out3,(IntKind.wrap .i64 (t24+1)))))
 else
 some (.done (.brk out))
def lN (p:av) (s_:State):Option ((List aN) × Int):=
 (cK p s_).bind fun r_=>
 bif (!decide (r_=0))then
 some (([]:List aN),r_)
 else
 (eF p s_).bind fun r_1=>
 Option.bind (aV (gJ p r_1) FUEL (([]:List aN),0)) fun o=>match o with
 | .ret v=>some v
 | .brk out1=>
 (ic out1).bind fun r_2=>
 bg (out1.length=r_2.length) (
 some (r_2,0))
def o7 (r_:Int) (x1:(List ax)):Option Bool:=
 bg (((0:Int)≤r_∧r_<(x1.length:Int))∧(gB [((!((at' x1 r_.toNat).e0)),true)]=true→(0:Int)≤r_∧r_<(x1.length:Int))) (
 some (bif (!((at' x1 r_.toNat).e0))then(!((at' x1 r_.toNat).e1))else false))
def fV (s_:(List Int)) (f_:(List ax)):Int→Option (dz Int (Ex Unit Int)):=
 fun t8=>
 bif (decide (t8<(s_.length:Int)))then
 (o7 (at' s_ t8.toNat) f_).bind fun r_=>
 bg ((0:Int)≤t8∧t8<(s_.length:Int)) (
 bif r_ then
 some (.done (.ret t8))
 else
 some (.next (IntKind.wrap .i64 (t8+1))))
 else
 some (.done (.brk ()))
def iI (s_:(List Int)) (f_:(List ax)):Option Int:=
 Option.bind (aV (fV s_ f_) FUEL (0)) fun o=>match o with
 | .ret v=>some v
 | .brk _=>
 some (-1)
def d9 (s_:(List Int)) (f_:(List ax)):Option Bool:=
 (iI s_ f_).bind fun r_=>
 some (decide (0≤r_))
def nH (s_:(List Int)) (v_:Int):Int→Option (dz Int (Ex Unit Int)):=
 fun t8=>
 bif (decide (t8<(s_.length:Int)))then
 bg ((0:Int)≤t8∧t8<(s_.length:Int)) (
 bif (decide (v_=(at' s_ t8.toNat)))then
 some (.done (.ret t8))
 else
 some (.next (IntKind.wrap .i64 (t8+1))))
 else
 some (.done (.brk ()))
def qF (s_:(List Int)) (v_:Int):Option Int:=
 Option.bind (aV (nH s_ v_) FUEL (0)) fun o=>match o with
 | .ret v=>some v
 | .brk _=>
 some (-1)
def iw (s_:(List Int)) (v_:Int):Option Bool:=
 (qF s_ v_).bind fun r_=>
 some (decide (0≤r_))
def o5 (p:av) (s_:State) (b:Int):Int→Option (dz Int (Ex Unit Bool)):=
 fun t22=>
 bif (decide (t22<(p.sources.length:Int)))then
 bg ((0:Int)≤t22∧t22<(p.sources.length:Int)) (
 bg (gB [((decide (((at' p.sources t22.toNat).bus)=b)),true)]=true→(0:Int)≤t22∧t22<(s_.on_.length:Int)) (
 bif (bif (decide (((at' p.sources t22.toNat).bus)=b))then(at' s_.on_ t22.toNat)else false)then
 some (.done (.ret false))
 else
 some (.next (IntKind.wrap .i64 (t22+1)))))
 else
 some (.done (.brk ()))
def o8 (p:av) (s_:State) (t:Task) (b:Int):Int→Option (dz Int (Ex Unit Bool)):=
 fun t42=>
 bif (decide (t42<(p.links.length:Int)))then
 bg ((0:Int)≤t42∧t42<(p.links.length:Int)) (
 (bif gB [((bif (!decide (((at' p.links t42.toNat).a)=b))then(!decide (((at' p.links t42.toNat).b)=b))else false),false)]then iw t.crew (IntKind.wrap .i64 ((IntKind.wrap .i64 (((at' p.links t42.toNat).a)+((at' p.links t42.toNat).b))) - b))else some default).bind fun r_=>
 bif (bif (bif (!decide (((at' p.links t42.toNat).a)=b))then(!decide (((at' p.links t42.toNat).b)=b))else false)then true else r_)then
 some (.next (IntKind.wrap .i64 (t42+1)))
 else
 bg ((gB [((decide (((at' p.links t42.toNat).kind)=1)),false)]=true→(0:Int)≤t42∧t42<(s_.closed.length:Int))∧(gB [((bif (decide (((at' p.links t42.toNat).kind)=1))then true else(at' s_.closed t42.toNat)),false)]=true→(0:Int)≤t42∧t42<(s_.locked.length:Int))) (
 bif (bif (bif (decide (((at' p.links t42.toNat).kind)=1))then true else(at' s_.closed t42.toNat))then true else(!(at' s_.locked t42.toNat)))then
 some (.done (.ret false))
 else
 some (.next (IntKind.wrap .i64 (t42+1)))))
 else
 some (.done (.brk ()))
def pI (p:av) (s_:State) (t:Task) (b:Int):Option Bool:=
 bg ((0:Int)≤b∧b<(s_.earthed.length:Int)) (
 bif (!(at' s_.earthed b.toNat))then
 some false
 else
 Option.bind (aV (o5 p s_ b) FUEL (0)) fun o=>match o with
 | .ret v=>some v
 | .brk _=>
 Option.bind (aV (o8 p s_ t b) FUEL (0)) fun o=>match o with
 | .ret v=>some v
 | .brk _=>
 some true)
def o6 (b:Int) (x1:Int) (x11:(List Source)) (x12:(List Link)) (x13:(List aJ)) (x2:(List Bool)) (x21:(List Bool)) (x22:(List Bool)) (x23:(List Bool)) (x24:(List Bool)) (x25:(List Bool)) (x26:(List Bool)) (x3:(List Int)) (x31:(List Int)) (x32:(List aj)) (x33:(List aj)):Option Bool:=
 (pI (⟨x1,x11,x12,x13⟩:av) (⟨x2,x21,x22,x23,x24,x25,x26⟩:State) (⟨x3,x31,x32,x33⟩:Task) b).bind fun r_=>
 some (!r_)
def gu (s_:(List Int)) (f_:Int) (f_1:(List Source)) (f_2:(List Link)) (f_3:(List aJ)) (f_4:(List Bool)) (f_5:(List Bool)) (f_6:(List Bool)) (f_7:(List Bool)) (f_8:(List Bool)) (f_9:(List Bool)) (f_10:(List Bool)) (f_11:(List Int)) (f_12:(List Int)) (f_13:(List aj)) (f_14:(List aj)):Int→Option (dz Int (Ex Unit Int)):=
 fun t8=>
 bif (decide (t8<(s_.length:Int)))then
 (o6 (at' s_ t8.toNat) f_ f_1 f_2 f_3 f_4 f_5 f_6 f_7 f_8 f_9 f_10 f_11 f_12 f_13 f_14).bind fun r_=>
 bg ((0:Int)≤t8∧t8<(s_.length:Int)) (
 bif r_ then
 some (.done (.ret t8))
 else
 some (.next (IntKind.wrap .i64 (t8+1))))
 else
 some (.done (.brk ()))
def iF (s_:(List Int)) (f_:Int) (f_1:(List Source)) (f_2:(List Link)) (f_3:(List aJ)) (f_4:(List Bool)) (f_5:(List Bool)) (f_6:(List Bool)) (f_7:(List Bool)) (f_8:(List Bool)) (f_9:(List Bool)) (f_10:(List Bool)) (f_11:(List Int)) (f_12:(List Int)) (f_13:(List aj)) (f_14:(List aj)):Option Int:=
 Option.bind (aV (gu s_ f_ f_1 f_2 f_3 f_4 f_5 f_6 f_7 f_8 f_9 f_10 f_11 f_12 f_13 f_14) FUEL (0)) fun o=>match o with
 | .ret v=>some v
 | .brk _=>
 some (-1)
def dY (s_:(List Int)) (f_:Int) (f_1:(List Source)) (f_2:(List Link)) (f_3:(List aJ)) (f_4:(List Bool)) (f_5:(List Bool)) (f_6:(List Bool)) (f_7:(List Bool)) (f_8:(List Bool)) (f_9:(List Bool)) (f_10:(List Bool)) (f_11:(List Int)) (f_12:(List Int)) (f_13:(List aj)) (f_14:(List aj)):Option Bool:=
 (iF s_ f_ f_1 f_2 f_3 f_4 f_5 f_6 f_7 f_8 f_9 f_10 f_11 f_12 f_13 f_14).bind fun r_=>
 some (decide (0≤r_))
def kQ (s_:State) (r_:((List Bool) × Int)):Int→Option (dz Int (Ex Unit Int)):=
 fun t23=>
 bif (decide (t23<(r_.1.length:Int)))then
 bg ((0:Int)≤t23∧t23<(r_.1.length:Int)) (
 bg (gB [((at' r_.1 t23.toNat),true)]=true→(0:Int)≤t23∧t23<(s_.earthed.length:Int)) (
 bif (bif (at' r_.1 t23.toNat)then(at' s_.earthed t23.toNat)else false)then
 some (.done (.ret 40))
 else
 some (.next (IntKind.wrap .i64 (t23+1)))))
 else
 some (.done (.brk ()))
def lG (p:av) (s_:State) (t:Task):Option Int:=
 (fZ p s_).bind fun r_=>
 Option.bind (aV (kQ s_ r_) FUEL (0)) fun o=>match o with
 | .ret v=>some v
 | .brk _=>
 (lN p s_).bind fun r_1=>
 bif (decide (0<(r_1.1.length:Int)))then
 some 41
 else
 (oU p s_).bind fun r_2=>
 (d9 t.fed r_2.1).bind fun r_3=>
 bif r_3 then
 some 42
 else
 (dY t.crew p.buses p.sources p.links p.racks s_.closed s_.locked s_.badLink s_.on_ s_.badSource s_.earthed s_.badBus t.fed t.crew t.allowed t.goal).bind fun r_4=>
 bif r_4 then
 some 45
 else
 some 0
def jO (p:av) (s_:State) (t:Task):Option Int:=
 (cK p s_).bind fun r_=>
 bif (!decide (r_=0))then
 some r_
 else
 (mF p t).bind fun r_1=>
 bif (!r_1)then
 some 1
 else
 (lG p s_ t).bind fun r_2=>
 some r_2
def kG (s_:(List Bool)) (s_nn:Bool):Option (List Bool):=
 bif (!s_nn)then
 some ([]:List Bool)
 else
 bg (((([]:List Bool).length+s_.length)*1≤140737488355328)∧(([]:List Bool).length+s_.length≤4611686018427387904)) (
 some (([]:List Bool)++s_))
def ai (s:(List Bool)):Option (List Bool):=kG s true
def nM (s_:State):Option State:=
 bg ((0:Int)≤0∧0<(7:Int)) (
 (ai s_.closed).bind fun r_=>
 bg ((0:Int)≤1∧1<(7:Int)) (
 (ai s_.locked).bind fun r_1=>
 bg ((0:Int)≤2∧2<(7:Int)) (
 (ai s_.badLink).bind fun r_2=>
 bg ((0:Int)≤3∧3<(7:Int)) (
 (ai s_.on_).bind fun r_3=>
 bg ((0:Int)≤4∧4<(7:Int)) (
 (ai s_.badSource).bind fun r_4=>
 bg ((0:Int)≤5∧5<(7:Int)) (
 (ai s_.earthed).bind fun r_5=>
 bg ((0:Int)≤6∧6<(7:Int)) (
 (ai s_.badBus).bind fun r_6=>
 some (⟨r_,r_1,r_2,r_3,r_4,r_5,r_6⟩:State))))))))
def lq:Option Unit:=
 some ()
def jA (state:State):Option Unit:=
 some ()
def jm (state:State):Option Unit:=
 some ()
def jB (state:State):Option Unit:=
 some ()
def jk (state:State):Option Unit:=
 some ()
def kP (s_:State) (x:aj):Option State:=
 (lq).bind fun r_=>
 bif (aU x.deed 1)then
 bg ((0:Int)≤0∧0<(7:Int)) (
 (ai s_.closed).bind fun r_1=>
 bg ((0:Int)≤1∧1<(7:Int)) (
 (ai s_.locked).bind fun r_2=>
 bg ((0:Int)≤2∧2<(7:Int)) (
 (ai s_.badLink).bind fun r_3=>
 bg ((0:Int)≤3∧3<(7:Int)) (
 (ai s_.on_).bind fun r_4=>
 bg ((0:Int)≤4∧4<(7:Int)) (
 (ai s_.badSource).bind fun r_5=>
 bg ((0:Int)≤5∧5<(7:Int)) (
 (ai s_.earthed).bind fun r_6=>
 bg ((0:Int)≤6∧6<(7:Int)) (
 (ai s_.badBus).bind fun r_7=>
 (jA (⟨r_1,r_2,r_3,r_4,r_5,r_6,r_7⟩:State)).bind fun r_8=>
 bg ((0:Int)≤x.index∧x.index<(r_1.length:Int)) (
 some (⟨(r_1.set x.index.toNat false),r_2,r_3,r_4,r_5,r_6,r_7⟩:State)))))))))
 else
 bif (aU x.deed 2)then
 bg ((0:Int)≤0∧0<(7:Int)) (
 (ai s_.closed).bind fun r_9=>
 bg ((0:Int)≤1∧1<(7:Int)) (
 (ai s_.locked).bind fun r_10=>
 bg ((0:Int)≤2∧2<(7:Int)) (
 (ai s_.badLink).bind fun r_11=>
 bg ((0:Int)≤3∧3<(7:Int)) (
 (ai s_.on_).bind fun r_12=>
 bg ((0:Int)≤4∧4<(7:Int)) (
 (ai s_.badSource).bind fun r_13=>
 bg ((0:Int)≤5∧5<(7:Int)) (
 (ai s_.earthed).bind fun r_14=>
 bg ((0:Int)≤6∧6<(7:Int)) (
 (ai s_.badBus).bind fun r_15=>
 (jA (⟨r_9,r_10,r_11,r_12,r_13,r_14,r_15⟩:State)).bind fun r_16=>
 bg ((0:Int)≤x.index∧x.index<(r_9.length:Int)) (
 some (⟨(r_9.set x.index.toNat true),r_10,r_11,r_12,r_13,r_14,r_15⟩:State)))))))))
 else
 bif (aU x.deed 3)then
 bg ((0:Int)≤0∧0<(7:Int)) (
 (ai s_.closed).bind fun r_17=>
 bg ((0:Int)≤1∧1<(7:Int)) (
 (ai s_.locked).bind fun r_18=>
 bg ((0:Int)≤2∧2<(7:Int)) (
 (ai s_.badLink).bind fun r_19=>
 bg ((0:Int)≤3∧3<(7:Int)) (
 (ai s_.on_).bind fun r_20=>
 bg ((0:Int)≤4∧4<(7:Int)) (
 (ai s_.badSource).bind fun r_21=>
 bg ((0:Int)≤5∧5<(7:Int)) (
 (ai s_.earthed).bind fun r_22=>
 bg ((0:Int)≤6∧6<(7:Int)) (
 (ai s_.badBus).bind fun r_23=>
 (jm (⟨r_17,r_18,r_19,r_20,r_21,r_22,r_23⟩:State)).bind fun r_24=>
 bg ((0:Int)≤x.index∧x.index<(r_22.length:Int)) (
 some (⟨r_17,r_18,r_19,r_20,r_21,(r_22.set x.index.toNat true),r_23⟩:State)))))))))
 else
 bif (aU x.deed 4)then
 bg ((0:Int)≤0∧0<(7:Int)) (
 (ai s_.closed).bind fun r_25=>
 bg ((0:Int)≤1∧1<(7:Int)) (
 (ai s_.locked).bind fun r_26=>
 bg ((0:Int)≤2∧2<(7:Int)) (
 (ai s_.badLink).bind fun r_27=>
 bg ((0:Int)≤3∧3<(7:Int)) (
 (ai s_.on_).bind fun r_28=>
 bg ((0:Int)≤4∧4<(7:Int)) (
 (ai s_.badSource).bind fun r_29=>
 bg ((0:Int)≤5∧5<(7:Int)) (
 (ai s_.earthed).bind fun r_30=>
 bg ((0:Int)≤6∧6<(7:Int)) (
 (ai s_.badBus).bind fun r_31=>
 (jm (⟨r_25,r_26,r_27,r_28,r_29,r_30,r_31⟩:State)).bind fun r_32=>
 bg ((0:Int)≤x.index∧x.index<(r_30.length:Int)) (
 some (⟨r_25,r_26,r_27,r_28,r_29,(r_30.set x.index.toNat false),r_31⟩:State)))))))))
 else
 bif (aU x.deed 5)then
 bg ((0:Int)≤0∧0<(7:Int)) (
 (ai s_.closed).bind fun r_33=>
 bg ((0:Int)≤1∧1<(7:Int)) (
 (ai s_.locked).bind fun r_34=>
 bg ((0:Int)≤2∧2<(7:Int)) (
 (ai s_.badLink).bind fun r_35=>
 bg ((0:Int)≤3∧3<(7:Int)) (
 (ai s_.on_).bind fun r_36=>
 bg ((0:Int)≤4∧4<(7:Int)) (
 (ai s_.badSource).bind fun r_37=>
 bg ((0:Int)≤5∧5<(7:Int)) (
 (ai s_.earthed).bind fun r_38=>
 bg ((0:Int)≤6∧6<(7:Int)) (
 (ai s_.badBus).bind fun r_39=>
 (jB (⟨r_33,r_34,r_35,r_36,r_37,r_38,r_39⟩:State)).bind fun r_40=>
 bg ((0:Int)≤x.index∧x.index<(r_34.length:Int)) (
 some (⟨r_33,(r_34.set x.index.toNat true),r_35,r_36,r_37,r_38,r_39⟩:State)))))))))
 else
 bif (aU x.deed 6)then
 bg ((0:Int)≤0∧0<(7:Int)) (
 (ai s_.closed).bind fun r_41=>
 bg ((0:Int)≤1∧1<(7:Int)) (
 (ai s_.locked).bind fun r_42=>
 bg ((0:Int)≤2∧2<(7:Int)) (
 (ai s_.badLink).bind fun r_43=>
 bg ((0:Int)≤3∧3<(7:Int)) (
 (ai s_.on_).bind fun r_44=>
 bg ((0:Int)≤4∧4<(7:Int)) (
 (ai s_.badSource).bind fun r_45=>
 bg ((0:Int)≤5∧5<(7:Int)) (
 (ai s_.earthed).bind fun r_46=>
 bg ((0:Int)≤6∧6<(7:Int)) (
 (ai s_.badBus).bind fun r_47=>
 (jB (⟨r_41,r_42,r_43,r_44,r_45,r_46,r_47⟩:State)).bind fun r_48=>
 bg ((0:Int)≤x.index∧x.index<(r_42.length:Int)) (
 some (⟨r_41,(r_42.set x.index.toNat false),r_43,r_44,r_45,r_46,r_47⟩:State)))))))))
 else
 bif (aU x.deed 7)then
 bg ((0:Int)≤0∧0<(7:Int)) (
 (ai s_.closed).bind fun r_49=>
 bg ((0:Int)≤1∧1<(7:Int)) (
 (ai s_.locked).bind fun r_50=>
 bg ((0:Int)≤2∧2<(7:Int)) (
 (ai s_.badLink).bind fun r_51=>
 bg ((0:Int)≤3∧3<(7:Int)) (
 (ai s_.on_).bind fun r_52=>
 bg ((0:Int)≤4∧4<(7:Int)) (
 (ai s_.badSource).bind fun r_53=>
 bg ((0:Int)≤5∧5<(7:Int)) (
 (ai s_.earthed).bind fun r_54=>
 bg ((0:Int)≤6∧6<(7:Int)) (
 (ai s_.badBus).bind fun r_55=>
 (jk (⟨r_49,r_50,r_51,r_52,r_53,r_54,r_55⟩:State)).bind fun r_56=>
 bg ((0:Int)≤x.index∧x.index<(r_52.length:Int)) (
 some (⟨r_49,r_50,r_51,(r_52.set x.index.toNat true),r_53,r_54,r_55⟩:State)))))))))
 else
 bif (aU x.deed 8)then
 bg ((0:Int)≤0∧0<(7:Int)) (
 (ai s_.closed).bind fun r_57=>
 bg ((0:Int)≤1∧1<(7:Int)) (
 (ai s_.locked).bind fun r_58=>
 bg ((0:Int)≤2∧2<(7:Int)) (
 (ai s_.badLink).bind fun r_59=>
 bg ((0:Int)≤3∧3<(7:Int)) (
 (ai s_.on_).bind fun r_60=>
 bg ((0:Int)≤4∧4<(7:Int)) (
 (ai s_.badSource).bind fun r_61=>
 bg ((0:Int)≤5∧5<(7:Int)) (
 (ai s_.earthed).bind fun r_62=>
 bg ((0:Int)≤6∧6<(7:Int)) (
 (ai s_.badBus).bind fun r_63=>
 (jk (⟨r_57,r_58,r_59,r_60,r_61,r_62,r_63⟩:State)).bind fun r_64=>
 bg ((0:Int)≤x.index∧x.index<(r_60.length:Int)) (
 some (⟨r_57,r_58,r_59,(r_60.set x.index.toNat false),r_61,r_62,r_63⟩:State)))))))))
 else
 bg ((0:Int)≤0∧0<(7:Int)) (
 (ai s_.closed).bind fun r_65=>
 bg ((0:Int)≤1∧1<(7:Int)) (
 (ai s_.locked).bind fun r_66=>
 bg ((0:Int)≤2∧2<(7:Int)) (
 (ai s_.badLink).bind fun r_67=>
 bg ((0:Int)≤3∧3<(7:Int)) (
 (ai s_.on_).bind fun r_68=>
 bg ((0:Int)≤4∧4<(7:Int)) (
 (ai s_.badSource).bind fun r_69=>
 bg ((0:Int)≤5∧5<(7:Int)) (
 (ai s_.earthed).bind fun r_70=>
 bg ((0:Int)≤6∧6<(7:Int)) (
 (ai s_.badBus).bind fun r_71=>
 none)))))))
def oZ:Option Unit:=
 some ()
def mO (p:av) (s_:State) (x:aj):Option Bool:=
 (kD p x).bind fun r_=>
 some (!r_)
def lM (s_:(List Bool)) (s_1:(List Bool)) (s_2:(List Bool)) (s_3:(List Bool)) (s_4:(List Bool)) (s_5:(List Bool)) (s_6:(List Bool)):Option ((List Bool) × (List Bool) × (List Bool) × (List Bool) × (List Bool) × (List Bool) × (List Bool)):=
 some (s_,s_1,s_2,s_3,s_4,s_5,s_6)
def lJ (s_:(List Bool)) (s_1:(List Bool)) (s_2:(List Bool)) (s_3:(List Bool)) (s_4:(List Bool)) (s_5:(List Bool)) (s_6:(List Bool)):Option ((List Bool) × (List Bool) × (List Bool) × (List Bool) × (List Bool) × (List Bool) × (List Bool)):=
 some (s_,s_1,s_2,s_3,s_4,s_5,s_6)
def lI (s_:(List Bool)) (s_1:(List Bool)) (s_2:(List Bool)) (s_3:(List Bool)) (s_4:(List Bool)) (s_5:(List Bool)) (s_6:(List Bool)):Option ((List Bool) × (List Bool) × (List Bool) × (List Bool) × (List Bool) × (List Bool) × (List Bool)):=
 some (s_,s_1,s_2,s_3,s_4,s_5,s_6)
def lK (s_:(List Bool)) (s_1:(List Bool)) (s_2:(List Bool)) (s_3:(List Bool)) (s_4:(List Bool)) (s_5:(List Bool)) (s_6:(List Bool)):Option ((List Bool) × (List Bool) × (List Bool) × (List Bool) × (List Bool) × (List Bool) × (List Bool)):=
 some (s_,s_1,s_2,s_3,s_4,s_5,s_6)
def om (s_:State) (x:aj):Option Bool:=
 (lq).bind fun r_=>
 bif (aU x.deed 1)then
 (lM s_.closed s_.locked s_.badLink s_.on_ s_.badSource s_.earthed s_.badBus).bind fun r_1=>
 bg ((0:Int)≤x.index∧x.index<(r_1.1.length:Int)) (
 some ((at' r_1.1 x.index.toNat)==false))
 else
 bif (aU x.deed 2)then
 (lM s_.closed s_.locked s_.badLink s_.on_ s_.badSource s_.earthed s_.badBus).bind fun r_2=>
 bg ((0:Int)≤x.index∧x.index<(r_2.1.length:Int)) (
 some ((at' r_2.1 x.index.toNat)==true))
 else
 bif (aU x.deed 3)then
 (lJ s_.closed s_.locked s_.badLink s_.on_ s_.badSource s_.earthed s_.badBus).bind fun r_3=>
 bg ((0:Int)≤x.index∧x.index<(r_3.2.2.2.2.2.1.length:Int)) (
 some ((at' r_3.2.2.2.2.2.1 x.index.toNat)==true))
 else
 bif (aU x.deed 4)then
 (lJ s_.closed s_.locked s_.badLink s_.on_ s_.badSource s_.earthed s_.badBus).bind fun r_4=>
 bg ((0:Int)≤x.index∧x.index<(r_4.2.2.2.2.2.1.length:Int)) (
 some ((at' r_4.2.2.2.2.2.1 x.index.toNat)==false))
 else
 bif (aU x.deed 5)then
 (lI s_.closed s_.locked s_.badLink s_.on_ s_.badSource s_.earthed s_.badBus).bind fun r_5=>
 bg ((0:Int)≤x.index∧x.index<(r_5.2.1.length:Int)) (
 some ((at' r_5.2.1 x.index.toNat)==true))
 else
 bif (aU x.deed 6)then
 (lI s_.closed s_.locked s_.badLink s_.on_ s_.badSource s_.earthed s_.badBus).bind fun r_6=>
 bg ((0:Int)≤x.index∧x.index<(r_6.2.1.length:Int)) (
 some ((at' r_6.2.1 x.index.toNat)==false))
 else
 bif (aU x.deed 7)then
 (lK s_.closed s_.locked s_.badLink s_.on_ s_.badSource s_.earthed s_.badBus).bind fun r_7=>
 bg ((0:Int)≤x.index∧x.index<(r_7.2.2.2.1.length:Int)) (
 some ((at' r_7.2.2.2.1 x.index.toNat)==true))
 else
 bif (aU x.deed 8)then
 (lK s_.closed s_.locked s_.badLink s_.on_ s_.badSource s_.earthed s_.badBus).bind fun r_8=>
 bg ((0:Int)≤x.index∧x.index<(r_8.2.2.2.1.length:Int)) (
 some ((at' r_8.2.2.2.1 x.index.toNat)==false))
 else
 none
def nC (p:av) (s_:State) (x:aj):Option Bool:=
 (om s_ x).bind fun r_=>
 some r_
def eY (x:aj):Option Bool:=
 some (bif (decide (x.deed=1))then true else(decide (x.deed=2)))
def uR (x:aj):Option Bool:=
 some (bif (decide (x.deed=7))then true else(decide (x.deed=8)))
def jX (p:av) (s_:State) (x:aj):Option Bool:=
 (eY x).bind fun r_=>
 (bif gB [((bif r_ then(at' s_.badLink x.index.toNat)else false),false)]then uR x else some default).bind fun r_1=>
 bg ((gB [(r_,true)]=true→(0:Int)≤x.index∧x.index<(s_.badLink.length:Int))∧(gB [(r_1,true),((bif r_ then(at' s_.badLink x.index.toNat)else false),false)]=true→(0:Int)≤x.index∧x.index<(s_.badSource.length:Int))) (
 some (bif (bif r_ then(at' s_.badLink x.index.toNat)else false)then true else(bif r_1 then(at' s_.badSource x.index.toNat)else false)))
def jW (p:av) (s_:State) (x:aj):Option Bool:=
 (eY x).bind fun r_=>
 bg (gB [(r_,true)]=true→(0:Int)≤x.index∧x.index<(s_.locked.length:Int)) (
 some (bif r_ then(at' s_.locked x.index.toNat)else false))
def jH (p:av) (s_:State):Option ((List aH) × Int):=
 (cK p s_).bind fun r_=>
 bif (!decide (r_=0))then
 some (([]:List aH),r_)
 else
 (eF p s_).bind fun r_1=>
 some (r_1,0)
def og (x:aH) (x1:Int):Option Bool:=
 (iw x.buses x1).bind fun r_=>
 some r_
def fB (s_:(List aH)) (f_:Int):Int→Option (dz Int (Ex Unit Int)):=
 fun t8=>
 bif (decide (t8<(s_.length:Int)))then
 (og (at' s_ t8.toNat) f_).bind fun r_=>
 bg ((0:Int)≤t8∧t8<(s_.length:Int)) (
 bif r_ then
 some (.done (.ret t8))
 else
 some (.next (IntKind.wrap .i64 (t8+1))))
 else
 some (.done (.brk ()))
def dO (s_:(List aH)) (f_:Int):Option Int:=
 Option.bind (aV (fB s_ f_) FUEL (0)) fun o=>match o with
 | .ret v=>some v
 | .brk _=>
 some (-1)
def gH (b:Int) (x1:(List aH)):Option Int:=
 (dO x1 b).bind fun r_=>
 some r_
def pO (p:av) (s_:State) (i:Int):Option Bool:=
 bg ((0:Int)≤i∧i<(s_.closed.length:Int)) (
 bif (at' s_.closed i.toNat)then
 (kP s_ (⟨1,i⟩:aj)).bind fun r_=>
 (jH p r_).bind fun r_1=>
 (gH ((at' p.links i.toNat).a) r_1.1).bind fun r_2=>
 (gH ((at' p.links i.toNat).b) r_1.1).bind fun r_3=>
 bg ((0:Int)≤i∧i<(p.links.length:Int)) (
 bg ((gB [((bif (bif (decide (0≤r_2))then(decide (0≤r_3))else false)then(!decide (r_2=r_3))else false),true)]=true→(0:Int)≤r_2∧r_2<(r_1.1.length:Int))∧(gB [((bif (bif (decide (0≤r_2))then(decide (0≤r_3))else false)then(!decide (r_2=r_3))else false),true)]=true→(0:Int)≤r_3∧r_3<(r_1.1.length:Int))) (
 some (bif (bif (bif (decide (0≤r_2))then(decide (0≤r_3))else false)then(!decide (r_2=r_3))else false)then(decide (0<(IntKind.wrap .i64 ((((at' r_1.1 r_2.toNat).sources).length:Int)+(((at' r_1.1 r_3.toNat).sources).length:Int)))))else false)))
 else
 (jH p s_).bind fun r_4=>
 (gH ((at' p.links i.toNat).a) r_4.1).bind fun r_5=>
 (gH ((at' p.links i.toNat).b) r_4.1).bind fun r_6=>
 bg ((0:Int)≤i∧i<(p.links.length:Int)) (
 bg ((gB [((bif (bif (decide (0≤r_5))then(decide (0≤r_6))else false)then(!decide (r_5=r_6))else false),true)]=true→(0:Int)≤r_5∧r_5<(r_4.1.length:Int))∧(gB [((bif (bif (decide (0≤r_5))then(decide (0≤r_6))else false)then(!decide (r_5=r_6))else false),true)]=true→(0:Int)≤r_6∧r_6<(r_4.1.length:Int))) (
 some (bif (bif (bif (decide (0≤r_5))then(decide (0≤r_6))else false)then(!decide (r_5=r_6))else false)then(decide (0<(IntKind.wrap .i64 ((((at' r_4.1 r_5.toNat).sources).length:Int)+(((at' r_4.1 r_6.toNat).sources).length:Int)))))else false))))
def j3 (p:av) (s_:State) (x:aj):Option Bool:=
 (eY x).bind fun r_=>
 (bif gB [((bif r_ then(decide (((at' p.links x.index.toNat).kind)=2))else false),true)]then pO p s_ x.index else some default).bind fun r_1=>
 bg (gB [(r_,true)]=true→(0:Int)≤x.index∧x.index<(p.links.length:Int)) (
 some (bif (bif r_ then(decide (((at' p.links x.index.toNat).kind)=2))else false)then r_1 else false))
def qM (p:av) (s_:State) (x:aj):Option (State × Int):=
 (oZ).bind fun r_=>
 (mO p s_ x).bind fun r_1=>
 bif r_1 then
 some ((⟨([]:List Bool),([]:List Bool),([]:List Bool),([]:List Bool),([]:List Bool),([]:List Bool),([]:List Bool)⟩:State),1)
 else
 (nC p s_ x).bind fun r_2=>
 bif r_2 then
 some ((⟨([]:List Bool),([]:List Bool),([]:List Bool),([]:List Bool),([]:List Bool),([]:List Bool),([]:List Bool)⟩:State),46)
 else
 (jX p s_ x).bind fun r_3=>
 bif r_3 then
 some ((⟨([]:List Bool),([]:List Bool),([]:List Bool),([]:List Bool),([]:List Bool),([]:List Bool),([]:List Bool)⟩:State),47)
 else
 (jW p s_ x).bind fun r_4=>
 bif r_4 then
 some ((⟨([]:List Bool),([]:List Bool),([]:List Bool),([]:List Bool),([]:List Bool),([]:List Bool),([]:List Bool)⟩:State),43)
 else
 (j3 p s_ x).bind fun r_5=>
 bif r_5 then
 some ((⟨([]:List Bool),([]:List Bool),([]:List Bool),([]:List Bool),([]:List Bool),([]:List Bool),([]:List Bool)⟩:State),44)
 else
 (kP s_ x).bind fun r_6=>
 some (r_6,0)
def pR (p:av) (s_:State) (t:Task) (x:aj):Option (State × Int):=
 (qM p s_ x).bind fun r_=>
 bif (decide (r_.2=0))then
 (lG p r_.1 t).bind fun r_1=>
 some (r_.1,r_1)
 else
 some (r_.1,r_.2)
def gX (p:av) (t:Task) (l:(List aj)):((List Bool) × (List Bool) × (List Bool) × (List Bool) × (List Bool) × (List Bool) × (List Bool) × Int)→Option (dz ((List Bool) × (List Bool) × (List Bool) × (List Bool) × (List Bool) × (List Bool) × (List Bool) × Int) (Ex ((List Bool) × (List Bool) × (List Bool) × (List Bool) × (List Bool) × (List Bool) × (List Bool)) (Int × State × Int))):=
 fun zz=>match zz with
 |(s0,s1,s2,s3,s4,s5,s6,t31)=>
 bif (decide (t31<(l.length:Int)))then
 bg ((0:Int)≤t31∧t31<(l.length:Int)) (
 (pR p (⟨s0,s1,s2,s3,s4,s5,s6⟩:State) t (at' l t31.toNat)).bind fun r_2=>
 bif (!decide (r_2.2=0))then
 some (.done (.ret (t31,(⟨([]:List Bool),([]:List Bool),([]:List Bool),([]:List Bool),([]:List Bool),([]:List Bool),([]:List Bool)⟩:State),r_2.2)))
 else
 some (.next (r_2.1.closed,r_2.1.locked,r_2.1.badLink,r_2.1.on_,r_2.1.badSource,r_2.1.earthed,r_2.1.badBus,(IntKind.wrap .i64 (t31+1)))))
 else
 some (.done (.brk (s0,s1,s2,s3,s4,s5,s6)))
def mQ (p:av) (s_:State) (t:Task) (l:(List aj)):Option (Int × State × Int):=
 (jO p s_ t).bind fun r_=>
 bif (!decide (r_=0))then
 some (0,(⟨([]:List Bool),([]:List Bool),([]:List Bool),([]:List Bool),([]:List Bool),([]:List Bool),([]:List Bool)⟩:State),r_)
 else
 bif (decide (256<(l.length:Int)))then
 some (0,(⟨([]:List Bool),([]:List Bool),([]:List Bool),([]:List Bool),([]:List Bool),([]:List Bool),([]:List Bool)⟩:State),2)
 else
 (nM s_).bind fun r_1=>
 Option.bind (aV (gX p t l) FUEL (r_1.closed,r_1.locked,r_1.badLink,r_1.on_,r_1.badSource,r_1.earthed,r_1.badBus,0)) fun o=>match o with
 | .ret v=>some v
 | .brk (s01,s11,s21,s31,s41,s51,s61)=>
 some ((l.length:Int),(⟨s01,s11,s21,s31,s41,s51,s61⟩:State),0)
def nG (s_:(List Int)) (s_nn:Bool):Option (List Int):=
 bif (!s_nn)then
 some ([]:List Int)
 else
 bg (((([]:List Int).length+s_.length)*8≤140737488355328)∧(([]:List Int).length+s_.length≤4611686018427387904)) (
 some (([]:List Int)++s_))
def fP (s:(List Int)):Option (List Int):=nG s true
def mW (s_:(List Source)) (s_nn:Bool):Option (List Source):=
 bif (!s_nn)then
 some ([]:List Source)
 else
 bg (((([]:List Source).length+s_.length)*40≤140737488355328)∧(([]:List Source).length+s_.length≤4611686018427387904)) (
 some (([]:List Source)++s_))
def iU (s:(List Source)):Option (List Source):=mW s true
def nu (s_:(List Link)) (s_nn:Bool):Option (List Link):=
 bif (!s_nn)then
 some ([]:List Link)
 else
 bg (((([]:List Link).length+s_.length)*64≤140737488355328)∧(([]:List Link).length+s_.length≤4611686018427387904)) (
 some (([]:List Link)++s_))
def iN (s:(List Link)):Option (List Link):=nu s true
def mR (s_:(List aJ)) (s_nn:Bool):Option (List aJ):=
 bif (!s_nn)then
 some ([]:List aJ)
 else
 bg (((([]:List aJ).length+s_.length)*32≤140737488355328)∧(([]:List aJ).length+s_.length≤4611686018427387904)) (
 some (([]:List aJ)++s_))
def iO (s:(List aJ)):Option (List aJ):=mR s true
def mJ (s_:(List dJ)) (s_nn:Bool):Option (List dJ):=
 bif (!s_nn)then
 some ([]:List dJ)
 else
 bg (((([]:List dJ).length+s_.length)*16≤140737488355328)∧(([]:List dJ).length+s_.length≤4611686018427387904)) (
 some (([]:List dJ)++s_))
def iP (s:(List dJ)):Option (List dJ):=mJ s true
def eT (r_1:(List Link)):((List Link) × Int)→Option (dz ((List Link) × Int) (Ex (List Link) av)):=
 fun zz=>match zz with
 |(p2,t19)=>
 bif (decide (t19<(r_1.length:Int)))then
 (iP ((at' p2 t19.toNat).trip)).bind fun r_3=>
 bg ((0:Int)≤t19∧t19<(p2.length:Int)) (
 some (.next ((p2.set t19.toNat (⟨(at' p2 t19.toNat).a,(at' p2 t19.toNat).b,(at' p2 t19.toNat).kind,(at' p2 t19.toNat).most,(at' p2 t19.toNat).ohm,r_3⟩:Link)),(IntKind.wrap .i64 (t19+1)))))
 else
 some (.done (.brk p2))
def ji (p:av):Option av:=
 (iU p.sources).bind fun r_=>
 (iN p.links).bind fun r_1=>
 (iO p.racks).bind fun r_2=>
 Option.bind (aV (eT r_1) FUEL (r_1,0)) fun o=>match o with
 | .ret v=>some v
 | .brk p21=>
 some (⟨p.buses,r_,p21,r_2⟩:av)
def dF (s_:State):Option State:=
 bg ((0:Int)≤0∧0<(7:Int)) (
 (ai s_.closed).bind fun r_=>
 bg ((0:Int)≤1∧1<(7:Int)) (
 (ai s_.locked).bind fun r_1=>
 bg ((0:Int)≤2∧2<(7:Int)) (
 (ai s_.badLink).bind fun r_2=>
 bg ((0:Int)≤3∧3<(7:Int)) (
 (ai s_.on_).bind fun r_3=>
 bg ((0:Int)≤4∧4<(7:Int)) (
 (ai s_.badSource).bind fun r_4=>
 bg ((0:Int)≤5∧5<(7:Int)) (
 (ai s_.earthed).bind fun r_5=>
 bg ((0:Int)≤6∧6<(7:Int)) (
 (ai s_.badBus).bind fun r_6=>
 some (⟨r_,r_1,r_2,r_3,r_4,r_5,r_6⟩:State))))))))
def nI (s_:(List Item)) (s_nn:Bool):Option (List Item):=
 bif (!s_nn)then
 some ([]:List Item)
 else
 bg (((([]:List Item).length+s_.length)*24≤140737488355328)∧(([]:List Item).length+s_.length≤4611686018427387904)) (
 some (([]:List Item)++s_))
def iQ (s:(List Item)):Option (List Item):=nI s true
def lW (p:av) (s_:State) (x:aj):Option (State × Int):=
 (cK p s_).bind fun r_=>
 bif (!decide (r_=0))then
 some ((⟨([]:List Bool),([]:List Bool),([]:List Bool),([]:List Bool),([]:List Bool),([]:List Bool),([]:List Bool)⟩:State),r_)
 else
 (qM p s_ x).bind fun r_1=>
 some (r_1.1,r_1.2)
def jM (x:aj):Option aj:=
 bif (bif (decide (1≤x.deed))then(decide (x.deed≤8))else false)then
 some (⟨(IntKind.wrap .i64 ((IntKind.wrap .i64 (((BitVec.ofInt (IntKind.bits .i64) (IntKind.wrap .i64 (x.deed - 1)) ^^^ BitVec.ofInt (IntKind.bits .i64) 1).toNat:Int)))+1)),x.index⟩:aj)
 else
 some x
def wh:Option (av × State × (List Item)):=
 bg (((0:Int)≤2)∧((1:Int)*2≤281474976710656)∧((2:Int)≤9223372036854775807)∧((0:Int)≤1)∧((1:Int)*1≤281474976710656)∧((1:Int)≤9223372036854775807)∧((0:Int)≤3)∧((1:Int)*3≤281474976710656)∧((3:Int)≤9223372036854775807)) (
 some ((⟨3,[(⟨0,1,500,0,20⟩:Source)],[(⟨0,1,3,400,10,([]:List dJ)⟩:Link),(⟨1,2,2,400,10,([]:List dJ)⟩:Link)],[(⟨(⟨2,(-1)⟩:aN),100,1⟩:aJ)]⟩:av),(⟨[true,true],(List.replicate 2 (false:Bool)),(List.replicate 2 (false:Bool)),[true],(List.replicate 1 (false:Bool)),(List.replicate 3 (false:Bool)),(List.replicate 3 (false:Bool))⟩:State),[(⟨(⟨1,0⟩:aj),true⟩:Item),(⟨(⟨1,1⟩:aj),false⟩:Item)]))
def fe (l:(List Item)):((List aj) × Int)→Option (dz ((List aj) × Int) (Ex (List aj) (Bool × Int × Int × Run))):=
 fun zz=>match zz with
 |(program,t22)=>
 bif (decide (t22<(l.length:Int)))then
 bg ((0:Int)≤t22∧t22<(l.length:Int)) (
 bg (((program.length+[((at' l t22.toNat).step)].length)*16≤140737488355328)∧(program.length+[((at' l t22.toNat).step)].length≤4611686018427387904)) (
 some (.next ((program++[((at' l t22.toNat).step)]),(IntKind.wrap .i64 (t22+1))))))
 else
 some (.done (.brk program))
def eG (p:av) (s_:State) (t:Task) (l:(List Item)):Option (Bool × Int × Int × Run):=
 bif (decide (64<(l.length:Int)))then
 some (false,0,2,(default:Run))
 else
 Option.bind (aV (fe l) FUEL (([]:List aj),0)) fun o=>match o with
 | .ret v=>some v
 | .brk program1=>
 (mQ p s_ t program1).bind fun r_=>
 bif (!decide (r_.2.2=0))then
 some (false,r_.1,r_.2.2,(default:Run))
 else
 (fP t.fed).bind fun r_1=>
 (fP t.crew).bind fun r_2=>
 (ji p).bind fun r_3=>
 (dF s_).bind fun r_4=>
 (iQ l).bind fun r_5=>
 (dF s_).bind fun r_6=>
 some (true,r_.1,0,(⟨(⟨r_3,r_4,(⟨r_1,r_2,([]:List aj),([]:List aj)⟩:Task),r_5⟩:Setting),r_6,0,false,false,([]:List aD)⟩:Run))
def cZ (run:Run):Option Bool:=
 some false
def dV (run:Run):Option Int:=
 (cZ run).bind fun r_=>
 bif r_ then
 some 5
 else
 bif (decide (1000≤(run.log.length:Int)))then
 some 2
 else
 some 0
def j6 (errno:Int) (state:State) (run:Run):Option Run:=
 bif (decide (errno=0))then
 some (⟨run.setting,state,run.done,run.wait,run.back,run.log⟩:Run)
 else
 some run
def jG (x:aj) (run:Run):Option (Int × Run):=
 Option.bind (α:=(Int × (List Bool) × (List Bool) × (List Bool) × (List Bool) × (List Bool) × (List Bool) × (List Bool))) (
 (lW run.setting.plant run.now x).bind fun r_=>
 some (r_.2,r_.1.closed,r_.1.locked,r_.1.badLink,r_.1.on_,r_.1.badSource,r_.1.earthed,r_.1.badBus)) fun z_=>
 Option.bind (α:=Int) (
 bif (decide (z_.1=0))then
 (jO run.setting.plant (⟨z_.2.1,z_.2.2.1,z_.2.2.2.1,z_.2.2.2.2.1,z_.2.2.2.2.2.1,z_.2.2.2.2.2.2.1,z_.2.2.2.2.2.2.2⟩:State) run.setting.task).bind fun r_1=>
 some r_1
 else
 some z_.1) fun w_=>
 Option.bind (j6 w_ (⟨z_.2.1,z_.2.2.1,z_.2.2.2.1,z_.2.2.2.2.1,z_.2.2.2.2.2.1,z_.2.2.2.2.2.2.1,z_.2.2.2.2.2.2.2⟩:State) run) fun r_2=>
 some (w_,(⟨r_2.setting,r_2.now,r_2.done,r_2.wait,r_2.back,run.log⟩:Run))
def bL (run:Run):Option (Int × Run):=
 (dV run).bind fun r_=>
 bif (!decide (r_=0))then
 some (r_,run)
 else
 bif run.back then
 some (9,run)
 else
 bif run.wait then
 some (130,run)
 else
 bif (decide (run.done=(run.setting.items.length:Int)))then
 some (4,run)
 else
 bg ((0:Int)≤run.done∧run.done<(run.setting.items.length:Int)) (
 (jG ((at' run.setting.items run.done.toNat).step) run).bind fun r_1=>
 bif (!decide (r_1.1=0))then
 some (r_1.1,(⟨r_1.2.setting,r_1.2.now,r_1.2.done,r_1.2.wait,r_1.2.back,run.log⟩:Run))
 else
 bg (((run.log.length+[(⟨1,((at' run.setting.items run.done.toNat).step),(⟨0,0⟩:Part),0⟩:aD)].length)*48≤140737488355328)∧(run.log.length+[(⟨1,((at' run.setting.items run.done.toNat).step),(⟨0,0⟩:Part),0⟩:aD)].length≤4611686018427387904)) (
 some (0,(⟨r_1.2.setting,r_1.2.now,(IntKind.wrap .i64 (r_1.2.done+1)),(at' run.setting.items run.done.toNat).ack,r_1.2.back,(run.log++[(⟨1,((at' run.setting.items run.done.toNat).step),(⟨0,0⟩:Part),0⟩:aD)])⟩:Run))))
def iV (who:Int) (run:Run):Option (Int × Run):=
 (dV run).bind fun r_=>
 bif (!decide (r_=0))then
 some (r_,run)
 else
 bif (!run.wait)then
 some (9,run)
 else
 bif (bif (decide (who<1))then true else(decide (1000<who)))then
 some (1,run)
 else
 bg (((run.log.length+[(⟨2,(⟨0,0⟩:aj),(⟨0,0⟩:Part),who⟩:aD)].length)*48≤140737488355328)∧(run.log.length+[(⟨2,(⟨0,0⟩:aj),(⟨0,0⟩:Part),who⟩:aD)].length≤4611686018427387904)) (
 some (0,(⟨run.setting,run.now,run.done,false,run.back,(run.log++[(⟨2,(⟨0,0⟩:aj),(⟨0,0⟩:Part),who⟩:aD)])⟩:Run)))
def rW (run:Run):Option Unit:=
 some ()
def rJ (x18:Int) (r_:((List ax) × Int)):((List (Int × Int)) × Int)→Option (dz ((List (Int × Int)) × Int) (Ex (List (Int × Int)) ((List (Int × Int)) × (List ax) × (List ax)))):=
 fun zz=>match zz with
 |(o40,t37)=>
 bif (decide (t37<(r_.1.length:Int)))then
 bg ((0:Int)≤t37∧t37<(r_.1.length:Int)) (
 bif (bif (at' r_.1 t37.toNat).e0 then true else(at' r_.1 t37.toNat).e1)then
 some (.next ((eB aU t37 x18 o40),(IntKind.wrap .i64 (t37+1))))
 else
 some (.next (o40,(IntKind.wrap .i64 (t37+1)))))
 else
 some (.done (.brk o40))
def rF (x18:Int) (r_:((List ax) × Int)):((List (Int × Int)) × Int)→Option (dz ((List (Int × Int)) × Int) (Ex (List (Int × Int)) ((List (Int × Int)) × (List ax) × (List ax)))):=
 fun zz=>match zz with
 |(o402,t371)=>
 bif (decide (t371<(r_.1.length:Int)))then
 bg ((0:Int)≤t371∧t371<(r_.1.length:Int)) (
 bif (bif (at' r_.1 t371.toNat).e0 then true else(at' r_.1 t371.toNat).e1)then
 some (.next ((eB aU t371 x18 o402),(IntKind.wrap .i64 (t371+1))))
 else
 some (.next (o402,(IntKind.wrap .i64 (t371+1)))))
 else
 some (.done (.brk o402))
def jE (x18:Int) (x19:(List Bool)) (x191:(List Bool)) (x192:(List Bool)) (x193:(List Bool)) (x194:(List Bool)) (x195:(List Bool)) (x196:(List Bool)) (o_:(List (Int × Int))) (o_1:(List ax)) (o_2:(List ax)) (run:Run):Option ((List (Int × Int)) × (List ax) × (List ax)):=
 (oU run.setting.plant (⟨x19,x191,x192,x193,x194,x195,x196⟩:State)).bind fun r_=>
 bif (decide (x18=0))then
 Option.bind (aV (rJ x18 r_) FUEL (o_,0)) fun o=>match o with
 | .ret v=>some v
 | .brk o401=>
 some (o401,r_.1,r_.1)
 else
 Option.bind (aV (rF x18 r_) FUEL (o_,0)) fun o=>match o with
 | .ret v=>some v
 | .brk o403=>
 some (o403,o_1,r_.1)
def xS (s_:State):Option State:=
 bg ((0:Int)≤0∧0<(7:Int)) (
 (ai s_.closed).bind fun r_=>
 bg ((0:Int)≤1∧1<(7:Int)) (
 (ai s_.locked).bind fun r_1=>
 bg ((0:Int)≤2∧2<(7:Int)) (
 (ai s_.badLink).bind fun r_2=>
 bg ((0:Int)≤3∧3<(7:Int)) (
 (ai s_.on_).bind fun r_3=>
 bg ((0:Int)≤4∧4<(7:Int)) (
 (ai s_.badSource).bind fun r_4=>
 bg ((0:Int)≤5∧5<(7:Int)) (
 (ai s_.earthed).bind fun r_5=>
 bg ((0:Int)≤6∧6<(7:Int)) (
 (ai s_.badBus).bind fun r_6=>
 some (⟨r_,r_1,r_2,r_3,r_4,r_5,r_6⟩:State))))))))
def ni (p:av) (s_:State) (x:Part) (is:Bool):Option (State × Int):=
 (cK p s_).bind fun r_=>
 bif (!decide (r_=0))then
 some ((⟨([]:List Bool),([]:List Bool),([]:List Bool),([]:List Bool),([]:List Bool),([]:List Bool),([]:List Bool)⟩:State),r_)
 else
 (xS s_).bind fun r_1=>
 bif (aU x.kind 1)then
 (aS x.index 0 (IntKind.wrap .i64 ((r_1.badBus.length:Int) - 1))).bind fun r_2=>
 bif (!r_2)then
 some ((⟨([]:List Bool),([]:List Bool),([]:List Bool),([]:List Bool),([]:List Bool),([]:List Bool),([]:List Bool)⟩:State),14)
 else
 bg ((0:Int)≤x.index∧x.index<(r_1.badBus.length:Int)) (
 some ((⟨r_1.closed,r_1.locked,r_1.badLink,r_1.on_,r_1.badSource,r_1.earthed,(r_1.badBus.set x.index.toNat is)⟩:State),0))
 else
 bif (aU x.kind 2)then
 (aS x.index 0 (IntKind.wrap .i64 ((r_1.badSource.length:Int) - 1))).bind fun r_3=>
 bif (!r_3)then
 some ((⟨([]:List Bool),([]:List Bool),([]:List Bool),([]:List Bool),([]:List Bool),([]:List Bool),([]:List Bool)⟩:State),14)
 else
 bg ((0:Int)≤x.index∧x.index<(r_1.badSource.length:Int)) (
 some ((⟨r_1.closed,r_1.locked,r_1.badLink,r_1.on_,(r_1.badSource.set x.index.toNat is),r_1.earthed,r_1.badBus⟩:State),0))
 else
 bif (aU x.kind 3)then
 (aS x.index 0 (IntKind.wrap .i64 ((r_1.badLink.length:Int) - 1))).bind fun r_4=>
 bif (!r_4)then
 some ((⟨([]:List Bool),([]:List Bool),([]:List Bool),([]:List Bool),([]:List Bool),([]:List Bool),([]:List Bool)⟩:State),14)
 else
 bg ((0:Int)≤x.index∧x.index<(r_1.badLink.length:Int)) (
 some ((⟨r_1.closed,r_1.locked,(r_1.badLink.set x.index.toNat is),r_1.on_,r_1.badSource,r_1.earthed,r_1.badBus⟩:State),0))
 else
 (aS x.index 0 (-1)).bind fun r_5=>
 bif (!r_5)then
 some ((⟨([]:List Bool),([]:List Bool),([]:List Bool),([]:List Bool),([]:List Bool),([]:List Bool),([]:List Bool)⟩:State),14)
 else
 none
def lg (p:av) (s_:State) (x:Part):Option (State × Int):=
 (ni p s_ x true).bind fun r_=>
 some (r_.1,r_.2)
def mG (p:av) (s_:State) (x:Part):Option (State × Int):=
 (ni p s_ x false).bind fun r_=>
 some (r_.1,r_.2)
def uV (run:Run):((List (Int × Int)) × (List ax) × (List ax) × (List Bool) × (List Bool) × (List Bool) × (List Bool) × (List Bool) × (List Bool) × (List Bool) × Int)→Option (dz ((List (Int × Int)) × (List ax) × (List ax) × (List Bool) × (List Bool) × (List Bool) × (List Bool) × (List Bool) × (List Bool) × (List Bool) × Int) (Ex ((List (Int × Int)) × (List ax) × (List ax) × (List Bool) × (List Bool) × (List Bool) × (List Bool) × (List Bool) × (List Bool) × (List Bool)) ((List (Int × Int)) × (List ax) × (List ax)))):=
 fun zz=>match zz with
 |(o40,o50,o60,s0,s1,s2,s3,s4,s5,s6,t19)=>
 bif (decide (t19<(run.log.length:Int)))then
 Option.bind (α:=(Ex ((List (Int × Int)) × (List ax) × (List ax) × (List Bool) × (List Bool) × (List Bool) × (List Bool) × (List Bool) × (List Bool) × (List Bool)) (dz ((List (Int × Int)) × (List ax) × (List ax) × (List Bool) × (List Bool) × (List Bool) × (List Bool) × (List Bool) × (List Bool) × (List Bool) × Int) (Ex ((List (Int × Int)) × (List ax) × (List ax) × (List Bool) × (List Bool) × (List Bool) × (List Bool) × (List Bool) × (List Bool) × (List Bool)) ((List (Int × Int)) × (List ax) × (List ax)))))) (
 bg ((0:Int)≤t19∧t19<(run.log.length:Int)) (
 (jE t19 s0 s1 s2 s3 s4 s5 s6 o40 o50 o60 run).bind fun r_1=>
 bif (decide (((at' run.log t19.toNat).kind)=1))then
 bif (decide (((at' run.log t19.toNat).kind)=1))then
 (lW run.setting.plant (⟨s0,s1,s2,s3,s4,s5,s6⟩:State) ((at' run.log t19.toNat).step)).bind fun r_2=>
 some (.brk (r_1.1,r_1.2.1,r_1.2.2,r_2.1.closed,r_2.1.locked,r_2.1.badLink,r_2.1.on_,r_2.1.badSource,r_2.1.earthed,r_2.1.badBus))
 else
 bif (decide (((at' run.log t19.toNat).kind)=4))then
 (lg run.setting.plant (⟨s0,s1,s2,s3,s4,s5,s6⟩:State) ((at' run.log t19.toNat).part)).bind fun r_3=>
 some (.brk (r_1.1,r_1.2.1,r_1.2.2,r_3.1.closed,r_3.1.locked,r_3.1.badLink,r_3.1.on_,r_3.1.badSource,r_3.1.earthed,r_3.1.badBus))
 else
 bif (decide (((at' run.log t19.toNat).kind)=5))then
 (mG run.setting.plant (⟨s0,s1,s2,s3,s4,s5,s6⟩:State) ((at' run.log t19.toNat).part)).bind fun r_4=>
 some (.brk (r_1.1,r_1.2.1,r_1.2.2,r_4.1.closed,r_4.1.locked,r_4.1.badLink,r_4.1.on_,r_4.1.badSource,r_4.1.earthed,r_4.1.badBus))
 else
 some (.brk (r_1.1,r_1.2.1,r_1.2.2,s0,s1,s2,s3,s4,s5,s6))
 else
 bif (decide (((at' run.log t19.toNat).kind)=3))then
 (lW run.setting.plant (⟨s0,s1,s2,s3,s4,s5,s6⟩:State) ((at' run.log t19.toNat).step)).bind fun r_5=>
 some (.brk (r_1.1,r_1.2.1,r_1.2.2,r_5.1.closed,r_5.1.locked,r_5.1.badLink,r_5.1.on_,r_5.1.badSource,r_5.1.earthed,r_5.1.badBus))
 else
 bif (decide (((at' run.log t19.toNat).kind)=4))then
 (lg run.setting.plant (⟨s0,s1,s2,s3,s4,s5,s6⟩:State) ((at' run.log t19.toNat).part)).bind fun r_6=>
 some (.brk (r_1.1,r_1.2.1,r_1.2.2,r_6.1.closed,r_6.1.locked,r_6.1.badLink,r_6.1.on_,r_6.1.badSource,r_6.1.earthed,r_6.1.badBus))
 else
 bif (decide (((at' run.log t19.toNat).kind)=5))then
 (mG run.setting.plant (⟨s0,s1,s2,s3,s4,s5,s6⟩:State) ((at' run.log t19.toNat).part)).bind fun r_7=>
 some (.brk (r_1.1,r_1.2.1,r_1.2.2,r_7.1.closed,r_7.1.locked,r_7.1.badLink,r_7.1.on_,r_7.1.badSource,r_7.1.earthed,r_7.1.badBus))
 else
 some (.brk (r_1.1,r_1.2.1,r_1.2.2,s0,s1,s2,s3,s4,s5,s6)))) fun o=>match o with
 | .ret v=>some v
 | .brk (o402,o502,o602,s02,s12,s22,s32,s42,s52,s62)=>
 some (.next (o402,o502,o602,s02,s12,s22,s32,s42,s52,s62,(IntKind.wrap .i64 (t19+1))))
 else
 some (.done (.brk (o40,o50,o60,s0,s1,s2,s3,s4,s5,s6)))
def pE (o_:(List (Int × Int))) (o_1:(List ax)) (o_2:(List ax)) (run:Run):Option ((List (Int × Int)) × (List ax) × (List ax)):=
 (dF run.setting.begin).bind fun r_=>
 Option.bind (aV (uV run) FUEL (o_,o_1,o_2,r_.closed,r_.locked,r_.badLink,r_.on_,r_.badSource,r_.earthed,r_.badBus,0)) fun o=>match o with
 | .ret v=>some v
 | .brk (o401,o501,o601,s01,s11,s21,s31,s41,s51,s61)=>
 (jE (run.log.length:Int) s01 s11 s21 s31 s41 s51 s61 o401 o501 o601 run).bind fun r_8=>
 some (r_8.1,r_8.2.1,r_8.2.2)
def wU (run:Run) (r_2:((List (Int × Int)) × (List ax) × (List ax))):((List iK) × Int)→Option (dz ((List iK) × Int) (Ex (List iK) ((List iK) × Int))):=
 fun zz=>match zz with
 |(out,t61)=>
 bif (decide (t61<(run.setting.plant.racks.length:Int)))then
 bg (((0:Int)≤t61∧t61<(r_2.2.1.length:Int))∧(gB [((at' r_2.2.1 t61.toNat).e0,false)]=true→(0:Int)≤t61∧t61<(r_2.2.1.length:Int))∧(gB [((bif (at' r_2.2.1 t61.toNat).e0 then true else(at' r_2.2.1 t61.toNat).e1),true)]=true→(0:Int)≤t61∧t61<(r_2.2.2.length:Int))∧(gB [((bif (bif (at' r_2.2.1 t61.toNat).e0 then true else(at' r_2.2.1 t61.toNat).e1)then(!((at' r_2.2.2 t61.toNat).e0))else false),true)]=true→(0:Int)≤t61∧t61<(r_2.2.2.length:Int))) (
 bif (bif (bif (bif (at' r_2.2.1 t61.toNat).e0 then true else(at' r_2.2.1 t61.toNat).e1)then(!((at' r_2.2.2 t61.toNat).e0))else false)then(!((at' r_2.2.2 t61.toNat).e1))else false)then
 bg (((out.length+[(⟨t61,((bC aU t61 r_2.1).getD 0)⟩:iK)].length)*16≤140737488355328)∧(out.length+[(⟨t61,((bC aU t61 r_2.1).getD 0)⟩:iK)].length≤4611686018427387904)) (
 some (.next ((out++[(⟨t61,((bC aU t61 r_2.1).getD 0)⟩:iK)]),(IntKind.wrap .i64 (t61+1)))))
 else
 some (.next (out,(IntKind.wrap .i64 (t61+1)))))
 else
 some (.done (.brk out))
def rX (run:Run):Option ((List iK) × Int):=
 (cZ run).bind fun r_=>
 bif r_ then
 some (([]:List iK),5)
 else
 (rW run).bind fun r_1=>
 (pE ([]:(List (Int × Int))) ([]:List ax) ([]:List ax) run).bind fun r_2=>
 Option.bind (aV (wU run r_2) FUEL (([]:List iK),0)) fun o=>match o with
 | .ret v=>some v
 | .brk out1=>
 some (out1,0)
def bG (run:Run):Option (Int × Run):=
 (dV run).bind fun r_=>
 bif (!decide (r_=0))then
 some (r_,run)
 else
 bif (decide (run.done=0))then
 some (4,run)
 else
 (jM ((at' run.setting.items ((IntKind.wrap .i64 (run.done - 1)).toNat)).step)).bind fun r_1=>
 bg ((0:Int)≤(IntKind.wrap .i64 (run.done - 1))∧(IntKind.wrap .i64 (run.done - 1))<(run.setting.items.length:Int)) (
 (jG r_1 run).bind fun r_2=>
 bif (!decide (r_2.1=0))then
 some (r_2.1,(⟨r_2.2.setting,r_2.2.now,r_2.2.done,r_2.2.wait,r_2.2.back,run.log⟩:Run))
 else
 bg (((run.log.length+[(⟨3,r_1,(⟨0,0⟩:Part),0⟩:aD)].length)*48≤140737488355328)∧(run.log.length+[(⟨3,r_1,(⟨0,0⟩:Part),0⟩:aD)].length≤4611686018427387904)) (
 some (0,(⟨r_2.2.setting,r_2.2.now,(IntKind.wrap .i64 (r_2.2.done - 1)),false,true,(run.log++[(⟨3,r_1,(⟨0,0⟩:Part),0⟩:aD)])⟩:Run))))
def vU (x:Part) (kind:Int) (run:Run):Option (Int × Run):=
 (dV run).bind fun r_=>
 bif (!decide (r_=0))then
 some (r_,run)
 else
 (lg run.setting.plant run.now x).bind fun r_1=>
 bif (!decide (r_1.2=0))then
 some (r_1.2,run)
 else
 bg (((run.log.length+[(⟨kind,(⟨0,0⟩:aj),x,0⟩:aD)].length)*48≤140737488355328)∧(run.log.length+[(⟨kind,(⟨0,0⟩:aj),x,0⟩:aD)].length≤4611686018427387904)) (
 some (0,(⟨run.setting,r_1.1,run.done,run.wait,run.back,(run.log++[(⟨kind,(⟨0,0⟩:aj),x,0⟩:aD)])⟩:Run)))
def wB (x:Part) (run:Run):Option (Int × Run):=
 (vU x 4 run).bind fun r_=>
 some (r_.1,r_.2)
def qL (x:Part) (kind:Int) (run:Run):Option (Int × Run):=
 (dV run).bind fun r_=>
 bif (!decide (r_=0))then
 some (r_,run)
 else
 (mG run.setting.plant run.now x).bind fun r_1=>
 bif (!decide (r_1.2=0))then
 some (r_1.2,run)
 else
 bg (((run.log.length+[(⟨kind,(⟨0,0⟩:aj),x,0⟩:aD)].length)*48≤140737488355328)∧(run.log.length+[(⟨kind,(⟨0,0⟩:aj),x,0⟩:aD)].length≤4611686018427387904)) (
 some (0,(⟨run.setting,r_1.1,run.done,run.wait,run.back,(run.log++[(⟨kind,(⟨0,0⟩:aj),x,0⟩:aD)])⟩:Run)))
def vY (x:Part) (run:Run):Option (Int × Run):=
 (qL x 5 run).bind fun r_=>
 some (r_.1,r_.2)
def eU (run:Run):Option (State × Int):=
 (cZ run).bind fun r_=>
 bif r_ then
 some ((⟨([]:List Bool),([]:List Bool),([]:List Bool),([]:List Bool),([]:List Bool),([]:List Bool),([]:List Bool)⟩:State),5)
 else
 (dF run.now).bind fun r_1=>
 some (r_1,0)
def xQ (run:Run):Option ((List aD) × Int):=
 (cZ run).bind fun r_=>
 bif r_ then
 some (([]:List aD),5)
 else
 bg (((0:Int)≤(run.log.length:Int))∧((48:Int)*(run.log.length:Int)≤281474976710656)∧(((run.log.length:Int):Int)≤9223372036854775807)) (
 some (run.log,0))
def kY:Option Bool:=
 (wh).bind fun r_=>
 (eG r_.1 r_.2.1 (⟨([]:List Int),([]:List Int),([]:List aj),([]:List aj)⟩:Task) r_.2.2).bind fun r_1=>
 bif r_1.1 then
 bif (bif (bif (!decide (r_1.2.2.1=0))then true else(!decide (r_1.2.1=2)))then true else false)then
 some false
 else
 (bL r_1.2.2.2).bind fun r_2=>
 (bL r_2.2).bind fun r_3=>
 (iV 7 r_3.2).bind fun r_4=>
 (bL r_4.2).bind fun r_5=>
 (rX r_5.2).bind fun r_6=>
 bg (gB [((bif (bif (bif (bif (bif (!decide (r_2.1=0))then true else(!decide (r_3.1=130)))then true else(!decide (r_4.1=0)))then true else(!decide (r_5.1=0)))then true else(!decide (r_6.2=0)))then true else(!decide ((r_6.1.length:Int)=1))),false)]=true→(0:Int)≤0∧0<(r_6.1.length:Int)) (
 bif (bif (bif (bif (bif (bif (bif (!decide (r_2.1=0))then true else(!decide (r_3.1=130)))then true else(!decide (r_4.1=0)))then true else(!decide (r_5.1=0)))then true else(!decide (r_6.2=0)))then true else(!decide ((r_6.1.length:Int)=1)))then true else(!((decide (((at' r_6.1 0).rack)=0)) && ((decide (((at' r_6.1 0).event)=0)) && true))))then
 some false
 else
 (bG r_5.2).bind fun r_7=>
 (wB (⟨3,0⟩:Part) r_7.2).bind fun r_8=>
 (bG r_8.2).bind fun r_9=>
 (vY (⟨3,0⟩:Part) r_9.2).bind fun r_10=>
 bif (bif (bif (bif (!decide (r_7.1=0))then true else(!decide (r_8.1=0)))then true else(!decide (r_9.1=47)))then true else(!decide (r_10.1=0)))then
 some false
 else
 (bG r_10.2).bind fun r_11=>
 bif (!decide (r_11.1=0))then
 some false
 else
 (bG r_11.2).bind fun r_12=>
 bif (!decide (r_12.1=4))then
 some false
 else
 (bL r_12.2).bind fun r_13=>
 bif (!decide (r_13.1=9))then
 some false
 else
 (eU r_13.2).bind fun r_14=>
 (xQ r_13.2).bind fun r_15=>
 (bif gB [((bif (decide (r_14.2=0))then(decide (r_15.2=0))else false),true)]then gV r_14.1 r_.2.1 else some default).bind fun r_16=>
 some (bif (bif (bif (decide (r_14.2=0))then(decide (r_15.2=0))else false)then r_16 else false)then(decide ((r_15.1.length:Int)=7))else false))
 else
 some false
def ny (l:(List Int)):Option (List Int):=
 bg ((l.length*8≤140737488355328)∧(l.length≤4611686018427387904)) (
 some l)
def lQ (l:(List aj)):Option (List aj):=
 bg ((l.length*16≤140737488355328)∧(l.length≤4611686018427387904)) (
 some l)
def pV (t:Task):Option Task:=
 (ny t.fed).bind fun r_=>
 (ny t.crew).bind fun r_1=>
 (lQ t.allowed).bind fun r_2=>
 (lQ t.goal).bind fun r_3=>
 some (⟨r_,r_1,r_2,r_3⟩:Task)
def gF (l:(List Item)):((List Item) × Int)→Option (dz ((List Item) × Int) (Ex (List Item) (List Item))):=
 fun zz=>match zz with
 |(out,i)=>
 bif (decide (i<(l.length:Int)))then
 bg (((0:Int)≤i∧i<(l.length:Int))∧((out.length+[(⟨((at' l i.toNat).step),(at' l i.toNat).ack⟩:Item)].length)*24≤140737488355328)∧(out.length+[(⟨((at' l i.toNat).step),(at' l i.toNat).ack⟩:Item)].length≤4611686018427387904)) (
 some (.next ((out++[(⟨((at' l i.toNat).step),(at' l i.toNat).ack⟩:Item)]),(IntKind.wrap .i64 (i+1)))))
 else
 some (.done (.brk out))
def oC (l:(List Item)):Option (List Item):=
 Option.bind (aV (gF l) FUEL (([]:List Item),0)) fun o=>match o with
 | .ret v=>some v
 | .brk out1=>
 some out1
def iX (run:Run):Option Int:=
 (cZ run).bind fun r_=>
 bif r_ then
 some 5
 else
 (jO run.setting.plant run.now run.setting.task).bind fun r_1=>
 some r_1
def eu (run:Run):Option (Status × Int):=
 (cZ run).bind fun r_=>
 bif r_ then
 some ((⟨0,0,false,false⟩:Status),5)
 else
 some ((⟨run.done,(IntKind.wrap .i64 ((run.setting.items.length:Int) - run.done)),run.wait,run.back⟩:Status),0)
def dM (l:(List Item)) (n:Int):(Int × (List Source) × (List Link) × (List aJ) × (List Bool) × (List Bool) × (List Bool) × (List Bool) × (List Bool) × (List Bool) × (List Bool) × (List Int) × (List Int) × (List aj) × (List aj) × (List Item) × (List Bool) × (List Bool) × (List Bool) × (List Bool) × (List Bool) × (List Bool) × (List Bool) × Int × Bool × Bool × (List aD) × Int × Int)→Option (dz (Int × (List Source) × (List Link) × (List aJ) × (List Bool) × (List Bool) × (List Bool) × (List Bool) × (List Bool) × (List Bool) × (List Bool) × (List Int) × (List Int) × (List aj) × (List aj) × (List Item) × (List Bool) × (List Bool) × (List Bool) × (List Bool) × (List Bool) × (List Bool) × (List Bool) × Int × Bool × Bool × (List aD) × Int × Int) (Ex (Int × (List Source) × (List Link) × (List aJ) × (List Bool) × (List Bool) × (List Bool) × (List Bool) × (List Bool) × (List Bool) × (List Bool) × (List Int) × (List Int) × (List aj) × (List aj) × (List Item) × (List Bool) × (List Bool) × (List Bool) × (List Bool) × (List Bool) × (List Bool) × (List Bool) × Int × Bool × Bool × (List aD) × Int) Bool)):=
 fun zz=>match zz with
 |(r00,r01,r02,r03,r04,r05,r06,r07,r08,r09,r010,r011,r012,r013,r014,r015,r1,r2,r3,r4,r5,r6,r7,r8,r9,r10,r11,done,i)=>
 bif (bif (decide (i<(l.length:Int)))then(decide (i<(IntKind.wrap .i64 n)))else false)then
 (bL (⟨(⟨(⟨r00,r01,r02,r03⟩:av),(⟨r04,r05,r06,r07,r08,r09,r010⟩:State),(⟨r011,r012,r013,r014⟩:Task),r015⟩:Setting),(⟨r1,r2,r3,r4,r5,r6,r7⟩:State),r8,r9,r10,r11⟩:Run)).bind fun r_5=>
 (bif gB [((!decide (r_5.1=0)),false)]then iX r_5.2 else some default).bind fun r_6=>
 bif (bif (!decide (r_5.1=0))then true else(!decide (r_6=0)))then
 some (.done (.ret false))
 else
 bif (bif (at' l i.toNat).ack then(decide ((IntKind.wrap .i64 (i+1))<(IntKind.wrap .i64 n)))else false)then
 (bL r_5.2).bind fun r_7=>
 bif (!decide (r_7.1=130))then
 bg ((0:Int)≤i∧i<(l.length:Int)) (
 some (.done (.ret false)))
 else
 (iV 1 r_7.2).bind fun r_8=>
 bg ((0:Int)≤i∧i<(l.length:Int)) (
 bif (!decide (r_8.1=0))then
 some (.done (.ret false))
 else
 some (.next (r_8.2.setting.plant.buses,r_8.2.setting.plant.sources,r_8.2.setting.plant.links,r_8.2.setting.plant.racks,r_8.2.setting.begin.closed,r_8.2.setting.begin.locked,r_8.2.setting.begin.badLink,r_8.2.setting.begin.on_,r_8.2.setting.begin.badSource,r_8.2.setting.begin.earthed,r_8.2.setting.begin.badBus,r_8.2.setting.task.fed,r_8.2.setting.task.crew,r_8.2.setting.task.allowed,r_8.2.setting.task.goal,r_8.2.setting.items,r_8.2.now.closed,r_8.2.now.locked,r_8.2.now.badLink,r_8.2.now.on_,r_8.2.now.badSource,r_8.2.now.earthed,r_8.2.now.badBus,r_8.2.done,r_8.2.wait,r_8.2.back,r_8.2.log,(IntKind.wrap .i64 (done+1)),(IntKind.wrap .i64 (i+1)))))
 else
 bg ((0:Int)≤i∧i<(l.length:Int)) (
 some (.next (r_5.2.setting.plant.buses,r_5.2.setting.plant.sources,r_5.2.setting.plant.links,r_5.2.setting.plant.racks,r_5.2.setting.begin.closed,r_5.2.setting.begin.locked,r_5.2.setting.begin.badLink,r_5.2.setting.begin.on_,r_5.2.setting.begin.badSource,r_5.2.setting.begin.earthed,r_5.2.setting.begin.badBus,r_5.2.setting.task.fed,r_5.2.setting.task.crew,r_5.2.setting.task.allowed,r_5.2.setting.task.goal,r_5.2.setting.items,r_5.2.now.closed,r_5.2.now.locked,r_5.2.now.badLink,r_5.2.now.on_,r_5.2.now.badSource,r_5.2.now.earthed,r_5.2.now.badBus,r_5.2.done,r_5.2.wait,r_5.2.back,r_5.2.log,(IntKind.wrap .i64 (done+1)),(IntKind.wrap .i64 (i+1)))))
 else
 some (.done (.brk (r00,r01,r02,r03,r04,r05,r06,r07,r08,r09,r010,r011,r012,r013,r014,r015,r1,r2,r3,r4,r5,r6,r7,r8,r9,r10,r11,done)))
def fQ  :(Int × (List Source) × (List Link) × (List aJ) × (List Bool) × (List Bool) × (List Bool) × (List Bool) × (List Bool) × (List Bool) × (List Bool) × (List Int) × (List Int) × (List aj) × (List aj) × (List Item) × (List Bool) × (List Bool) × (List Bool) × (List Bool) × (List Bool) × (List Bool) × (List Bool) × Int × Bool × Bool × (List aD) × Int × Int × Bool × Bool × Int)→Option (dz (Int × (List Source) × (List Link) × (List aJ) × (List Bool) × (List Bool) × (List Bool) × (List Bool) × (List Bool) × (List Bool) × (List Bool) × (List Int) × (List Int) × (List aj) × (List aj) × (List Item) × (List Bool) × (List Bool) × (List Bool) × (List Bool) × (List Bool) × (List Bool) × (List Bool) × Int × Bool × Bool × (List aD) × Int × Int × Bool × Bool × Int) (Ex (Int × (List Source) × (List Link) × (List aJ) × (List Bool) × (List Bool) × (List Bool) × (List Bool) × (List Bool) × (List Bool) × (List Bool) × (List Int) × (List Int) × (List aj) × (List aj) × (List Item) × (List Bool) × (List Bool) × (List Bool) × (List Bool) × (List Bool) × (List Bool) × (List Bool) × Int × Bool × Bool × (List aD)) Bool)):=
 fun zz=>match zz with
 |(r002,r017,r022,r032,r042,r052,r062,r072,r082,r092,r0102,r0112,r0122,r0132,r0142,r0152,r13,r22,r32,r42,r52,r62,r72,r82,r92,r102,r112,x0,x1,x2,x3,i1)=>
 bif (decide (0<i1))then
 (bG (⟨(⟨(⟨r002,r017,r022,r032⟩:av),(⟨r042,r052,r062,r072,r082,r092,r0102⟩:State),(⟨r0112,r0122,r0132,r0142⟩:Task),r0152⟩:Setting),(⟨r13,r22,r32,r42,r52,r62,r72⟩:State),r82,r92,r102,r112⟩:Run)).bind fun r_10=>
 (bif gB [((!decide (r_10.1=0)),false)]then iX r_10.2 else some default).bind fun r_11=>
 bif (bif (!decide (r_10.1=0))then true else(!decide (r_11=0)))then
 some (.done (.ret false))
 else
 (eu r_10.2).bind fun r_12=>
 bif (bif (bif (bif (!decide (r_12.2=0))then true else(!decide (r_12.1.done=(IntKind.wrap .i64 (i1 - 1)))))then true else(!r_12.1.back))then true else r_12.1.waiting)then
 some (.done (.ret false))
 else
 some (.next (r_10.2.setting.plant.buses,r_10.2.setting.plant.sources,r_10.2.setting.plant.links,r_10.2.setting.plant.racks,r_10.2.setting.begin.closed,r_10.2.setting.begin.locked,r_10.2.setting.begin.badLink,r_10.2.setting.begin.on_,r_10.2.setting.begin.badSource,r_10.2.setting.begin.earthed,r_10.2.setting.begin.badBus,r_10.2.setting.task.fed,r_10.2.setting.task.crew,r_10.2.setting.task.allowed,r_10.2.setting.task.goal,r_10.2.setting.items,r_10.2.now.closed,r_10.2.now.locked,r_10.2.now.badLink,r_10.2.now.on_,r_10.2.now.badSource,r_10.2.now.earthed,r_10.2.now.badBus,r_10.2.done,r_10.2.wait,r_10.2.back,r_10.2.log,r_12.1.done,r_12.1.left,r_12.1.waiting,r_12.1.back,(IntKind.wrap .i64 (i1 - 1))))
 else
 some (.done (.brk (r002,r017,r022,r032,r042,r052,r062,r072,r082,r092,r0102,r0112,r0122,r0132,r0142,r0152,r13,r22,r32,r42,r52,r62,r72,r82,r92,r102,r112)))
def kS (p:av) (s_:State) (t:Task) (l:(List Item)) (n:Int):Option Bool:=
 (oJ p t l).bind fun r_=>
 bif r_ then
 (kY).bind fun r_1=>
 some r_1
 else
 (pV t).bind fun r_2=>
 (oC l).bind fun r_3=>
 (eG p s_ r_2 r_3).bind fun r_4=>
 bif r_4.1 then
 bif (!decide (r_4.2.2.1=0))then
 some false
 else
 bif (!decide (r_4.2.1=(l.length:Int)))then
 some false
 else
 Option.bind (aV (dM l n) FUEL (r_4.2.2.2.setting.plant.buses,r_4.2.2.2.setting.plant.sources,r_4.2.2.2.setting.plant.links,r_4.2.2.2.setting.plant.racks,r_4.2.2.2.setting.begin.closed,r_4.2.2.2.setting.begin.locked,r_4.2.2.2.setting.begin.badLink,r_4.2.2.2.setting.begin.on_,r_4.2.2.2.setting.begin.badSource,r_4.2.2.2.setting.begin.earthed,r_4.2.2.2.setting.begin.badBus,r_4.2.2.2.setting.task.fed,r_4.2.2.2.setting.task.crew,r_4.2.2.2.setting.task.allowed,r_4.2.2.2.setting.task.goal,r_4.2.2.2.setting.items,r_4.2.2.2.now.closed,r_4.2.2.2.now.locked,r_4.2.2.2.now.badLink,r_4.2.2.2.now.on_,r_4.2.2.2.now.badSource,r_4.2.2.2.now.earthed,r_4.2.2.2.now.badBus,r_4.2.2.2.done,r_4.2.2.2.wait,r_4.2.2.2.back,r_4.2.2.2.log,0,0)) fun o=>match o with
 | .ret v=>some v
 | .brk (r001,r016,r021,r031,r041,r051,r061,r071,r081,r091,r0101,r0111,r0121,r0131,r0141,r0151,r12,r21,r31,r41,r51,r61,r71,r81,r91,r101,r111,done1)=>
 (eu (⟨(⟨(⟨r001,r016,r021,r031⟩:av),(⟨r041,r051,r061,r071,r081,r091,r0101⟩:State),(⟨r0111,r0121,r0131,r0141⟩:Task),r0151⟩:Setting),(⟨r12,r21,r31,r41,r51,r61,r71⟩:State),r81,r91,r101,r111⟩:Run)).bind fun r_9=>
 bif (bif (bif (bif (!decide (r_9.2=0))then true else(!decide (r_9.1.done=done1)))then true else(!decide (r_9.1.left=(IntKind.wrap .i64 ((l.length:Int) - done1)))))then true else r_9.1.back)then
 some false
 else
 Option.bind (aV fQ FUEL (r001,r016,r021,r031,r041,r051,r061,r071,r081,r091,r0101,r0111,r0121,r0131,r0141,r0151,r12,r21,r31,r41,r51,r61,r71,r81,r91,r101,r111,r_9.1.done,r_9.1.left,r_9.1.waiting,r_9.1.back,done1)) fun o=>match o with
 | .ret v=>some v
 | .brk (r003,r018,r023,r033,r043,r053,r063,r073,r083,r093,r0103,r0113,r0123,r0133,r0143,r0153,r14,r23,r33,r43,r53,r63,r73,r83,r93,r103,r113)=>
 (eU (⟨(⟨(⟨r003,r018,r023,r033⟩:av),(⟨r043,r053,r063,r073,r083,r093,r0103⟩:State),(⟨r0113,r0123,r0133,r0143⟩:Task),r0153⟩:Setting),(⟨r14,r23,r33,r43,r53,r63,r73⟩:State),r83,r93,r103,r113⟩:Run)).bind fun r_13=>
 (bif gB [((decide (r_13.2=0)),true)]then gV r_13.1 s_ else some default).bind fun r_14=>
 bif (bif (decide (r_13.2=0))then r_14 else false)then
 (bG (⟨(⟨(⟨r003,r018,r023,r033⟩:av),(⟨r043,r053,r063,r073,r083,r093,r0103⟩:State),(⟨r0113,r0123,r0133,r0143⟩:Task),r0153⟩:Setting),(⟨r14,r23,r33,r43,r53,r63,r73⟩:State),r83,r93,r103,r113⟩:Run)).bind fun r_15=>
 (bif gB [((decide (r_15.1=4)),true)]then kY else some default).bind fun r_16=>
 some (bif (decide (r_15.1=4))then r_16 else false)
 else
 some false
 else
 bif (!decide (r_4.2.2.1=0))then
 (kY).bind fun r_17=>
 some r_17
 else
 some false
end Sg
