import Derived.Test.YtbjhjmcpfmhgdaaGreatAsLe
set_option linter.all false
namespace Sg
open Go
structure State where
 closed:(List Bool)
 locked:(List Bool)
 badLink:(List Bool)
 on_:(List Bool)
 badSource:(List Bool)
 earthed:(List Bool)
 badBus:(List Bool)
instance:Inhabited State:=⟨⟨default,default,default,default,default,default,default⟩⟩
def State.cell (x:State):Nat→DV
 |0=>(ax none 1 af x.closed)
 |1=>(ax none 1 af x.locked)
 |2=>(ax none 1 af x.badLink)
 |3=>(ax none 1 af x.on_)
 |4=>(ax none 1 af x.badSource)
 |5=>(ax none 1 af x.earthed)
 |6=>(ax none 1 af x.badBus)
 |_=> .nilp
structure Source where
 bus:Int
 kind:Int
 power:Int
 sync:Int
 ohm:Int
instance:Inhabited Source:=⟨⟨default,default,default,default,default⟩⟩
def Source.cell (x:Source):Nat→DV
 |0=>(.int .i64 x.bus)
 |1=>(.int .i64 x.kind)
 |2=>(.int .i64 x.power)
 |3=>(.int .i64 x.sync)
 |4=>(.int .i64 x.ohm)
 |_=> .nilp
structure dU where
 amps:Int
 millis:Int
instance:Inhabited dU:=⟨⟨default,default⟩⟩
def dU.cell (x:dU):Nat→DV
 |0=>(.int .i64 x.amps)
 |1=>(.int .i64 x.millis)
 |_=> .nilp
structure Link where
 a:Int
 b:Int
 kind:Int
 most:Int
 ohm:Int
 trip:(List dU)
instance:Inhabited Link:=⟨⟨default,default,default,default,default,default⟩⟩
def Link.cell (x:Link):Nat→DV
 |0=>(.int .i64 x.a)
 |1=>(.int .i64 x.b)
 |2=>(.int .i64 x.kind)
 |3=>(.int .i64 x.most)
 |4=>(.int .i64 x.ohm)
 |5=>(ax none 2 dU.cell x.trip)
 |_=> .nilp
structure aO where
 e0:Int
 e1:Int
instance:Inhabited aO:=⟨⟨default,default⟩⟩
def aO.cell (x:aO):Nat→DV
 |0=>(.int .i64 x.e0)
 |1=>(.int .i64 x.e1)
 |_=> .nilp
structure aL where
 feeds:aO
 power:Int
 paths:Int
instance:Inhabited aL:=⟨⟨default,default,default⟩⟩
def aL.cell (x:aL):Nat→DV
 |0=>(.int .i64 x.feeds.e0)
 |1=>(.int .i64 x.feeds.e1)
 |2=>(.int .i64 x.power)
 |3=>(.int .i64 x.paths)
 |_=> .nilp
structure ay where
 buses:Int
 sources:(List Source)
 links:(List Link)
 racks:(List aL)
instance:Inhabited ay:=⟨⟨default,default,default,default⟩⟩
def ay.cell (x:ay):Nat→DV
 |0=>(.int .i64 x.buses)
 |1=>(ax none 5 Source.cell x.sources)
 |2=>(ax none 6 Link.cell x.links)
 |3=>(ax none 4 aL.cell x.racks)
 |_=> .nilp
structure cK where
 l:(List Bool)
 n:Int
instance:Inhabited cK:=⟨⟨default,default⟩⟩
def cK.cell (x:cK):Nat→DV
 |0=>(ax none 1 af x.l)
 |1=>(.int .i64 x.n)
 |_=> .nilp
structure aj where
 deed:Int
 index:Int
instance:Inhabited aj:=⟨⟨default,default⟩⟩
def aj.cell (x:aj):Nat→DV
 |0=>(.int .i64 x.deed)
 |1=>(.int .i64 x.index)
 |_=> .nilp
structure Task where
 fed:(List Int)
 crew:(List Int)
 allowed:(List aj)
 goal:(List aj)
instance:Inhabited Task:=⟨⟨default,default,default,default⟩⟩
def Task.cell (x:Task):Nat→DV
 |0=>(ax none 1 (aU .i64) x.fed)
 |1=>(ax none 1 (aU .i64) x.crew)
 |2=>(ax none 2 aj.cell x.allowed)
 |3=>(ax none 2 aj.cell x.goal)
 |_=> .nilp
structure bg where
 head:(List (Int × Int))
instance:Inhabited bg:=⟨⟨default⟩⟩
def bg.cell (x:bg):Nat→DV
 |0=> .nilp
 |_=> .nilp
structure aH where
 buses:(List Int)
 sources:(List Int)
instance:Inhabited aH:=⟨⟨default,default⟩⟩
def aH.cell (x:aH):Nat→DV
 |0=>(ax none 1 (aU .i64) x.buses)
 |1=>(ax none 1 (aU .i64) x.sources)
 |_=> .nilp
structure aB where
 e0:Bool
 e1:Bool
instance:Inhabited aB:=⟨⟨default,default⟩⟩
def aB.cell (x:aB):Nat→DV
 |0=>(.bool x.e0)
 |1=>(.bool x.e1)
 |_=> .nilp
structure Item where
 step:aj
 ack:Bool
instance:Inhabited Item:=⟨⟨default,default⟩⟩
def Item.cell (x:Item):Nat→DV
 |0=>(.int .i64 x.step.deed)
 |1=>(.int .i64 x.step.index)
 |2=>(.bool x.ack)
 |_=> .nilp
structure Part where
 kind:Int
 index:Int
instance:Inhabited Part:=⟨⟨default,default⟩⟩
def Part.cell (x:Part):Nat→DV
 |0=>(.int .i64 x.kind)
 |1=>(.int .i64 x.index)
 |_=> .nilp
structure ai where
 kind:Int
 step:aj
 part:Part
 who:Int
instance:Inhabited ai:=⟨⟨default,default,default,default⟩⟩
def ai.cell (x:ai):Nat→DV
 |0=>(.int .i64 x.kind)
 |1=>(.int .i64 x.step.deed)
 |2=>(.int .i64 x.step.index)
 |3=>(.int .i64 x.part.kind)
 |4=>(.int .i64 x.part.index)
 |5=>(.int .i64 x.who)
 |_=> .nilp
structure Setting where
 plant:ay
 begin:State
 task:Task
 items:(List Item)
instance:Inhabited Setting:=⟨⟨default,default,default,default⟩⟩
def Setting.cell (x:Setting):Nat→DV
 |0=>(.int .i64 x.plant.buses)
 |1=>(ax none 5 Source.cell x.plant.sources)
 |2=>(ax none 6 Link.cell x.plant.links)
 |3=>(ax none 4 aL.cell x.plant.racks)
 |4=>(ax none 1 af x.begin.closed)
 |5=>(ax none 1 af x.begin.locked)
 |6=>(ax none 1 af x.begin.badLink)
 |7=>(ax none 1 af x.begin.on_)
 |8=>(ax none 1 af x.begin.badSource)
 |9=>(ax none 1 af x.begin.earthed)
 |10=>(ax none 1 af x.begin.badBus)
 |11=>(ax none 1 (aU .i64) x.task.fed)
 |12=>(ax none 1 (aU .i64) x.task.crew)
 |13=>(ax none 2 aj.cell x.task.allowed)
 |14=>(ax none 2 aj.cell x.task.goal)
 |15=>(ax none 3 Item.cell x.items)
 |_=> .nilp
structure Run where
 setting:Setting
 now:State
 done:Int
 wait:Bool
 back:Bool
 log:(List ai)
instance:Inhabited Run:=⟨⟨default,default,default,default,default,default⟩⟩
def Run.cell (x:Run):Nat→DV
 |0=>(tQ [(.int .i64 x.setting.plant.buses),(ax none 5 Source.cell x.setting.plant.sources),(ax none 6 Link.cell x.setting.plant.links),(ax none 4 aL.cell x.setting.plant.racks),(ax none 1 af x.setting.begin.closed),(ax none 1 af x.setting.begin.locked),(ax none 1 af x.setting.begin.badLink),(ax none 1 af x.setting.begin.on_),(ax none 1 af x.setting.begin.badSource),(ax none 1 af x.setting.begin.earthed),(ax none 1 af x.setting.begin.badBus),(ax none 1 (aU .i64) x.setting.task.fed),(ax none 1 (aU .i64) x.setting.task.crew),(ax none 2 aj.cell x.setting.task.allowed),(ax none 2 aj.cell x.setting.task.goal),(ax none 3 Item.cell x.setting.items)] 0)
 |1=>(ax none 1 af x.now.closed)
 |2=>(ax none 1 af x.now.locked)
 |3=>(ax none 1 af x.now.badLink)
 |4=>(ax none 1 af x.now.on_)
 |5=>(ax none 1 af x.now.badSource)
 |6=>(ax none 1 af x.now.earthed)
 |7=>(ax none 1 af x.now.badBus)
 |8=>(.int .i64 x.done)
 |9=>(.bool x.wait)
 |10=>(.bool x.back)
 |11=>(ax none 6 ai.cell x.log)
 |_=> .nilp
structure fD where
 rack:Int
 event:Int
instance:Inhabited fD:=⟨⟨default,default⟩⟩
def fD.cell (x:fD):Nat→DV
 |0=>(.int .i64 x.rack)
 |1=>(.int .i64 x.event)
 |_=> .nilp
structure Status where
 done:Int
 left:Int
 waiting:Bool
 back:Bool
instance:Inhabited Status:=⟨⟨default,default,default,default⟩⟩
def Status.cell (x:Status):Nat→DV
 |0=>(.int .i64 x.done)
 |1=>(.int .i64 x.left)
 |2=>(.bool x.waiting)
 |3=>(.bool x.back)
 |_=> .nilp
def aH.ev (x:aH):Nat→EV
 |0=> .row 3 1 x.buses.length (aD (aU .i64) x.buses)
 |1=> .row 3 1 x.sources.length (aD (aU .i64) x.sources)
 |_=> .d .nilp
def zP (a:(List Bool)) (b:(List Bool)):Int→Option (dG Int (Ex Unit Bool)):=
 fun i=>
 bif (decide (i<(a.length:Int)))then
 bn (((0:Int)≤i∧i<(a.length:Int))∧((0:Int)≤i∧i<(b.length:Int))) (
 bif (!((at' a i.toNat)==(at' b i.toNat)))then
 some (.done (.ret false))
 else
 some (.next (IntKind.wrap .i64 (i+1))))
 else
 some (.done (.brk ()))
def eG (a:(List Bool)) (b:(List Bool)):Option Bool:=
 bif (!decide ((a.length:Int)=(b.length:Int)))then
 some false
 else
 Option.bind (aW (zP a b) FUEL (0)) fun o=>match o with
 | .ret v=>some v
 | .brk _=>
 some true
def xw (a:State) (b:State):Option Bool:=
 (eG a.closed b.closed).bind fun r_=>
 (bif gB [(r_,true)]then eG a.locked b.locked else some default).bind fun r_1=>
 (bif gB [((bif r_ then r_1 else false),true)]then eG a.badLink b.badLink else some default).bind fun r_2=>
 (bif gB [((bif (bif r_ then r_1 else false)then r_2 else false),true)]then eG a.on_ b.on_ else some default).bind fun r_3=>
 (bif gB [((bif (bif (bif r_ then r_1 else false)then r_2 else false)then r_3 else false),true)]then eG a.badSource b.badSource else some default).bind fun r_4=>
 (bif gB [((bif (bif (bif (bif r_ then r_1 else false)then r_2 else false)then r_3 else false)then r_4 else false),true)]then eG a.earthed b.earthed else some default).bind fun r_5=>
 (bif gB [((bif (bif (bif (bif (bif r_ then r_1 else false)then r_2 else false)then r_3 else false)then r_4 else false)then r_5 else false),true)]then eG a.badBus b.badBus else some default).bind fun r_6=>
 some (bif (bif (bif (bif (bif (bif r_ then r_1 else false)then r_2 else false)then r_3 else false)then r_4 else false)then r_5 else false)then r_6 else false)
def aV (n:Int) (first:Int) (last:Int):Option Bool:=
 some (bif (decide (first≤n))then(decide (n≤last))else false)
def rJ (p:ay):Option (Int × (List Source) × (List Link) × (List aL)):=
 some (p.buses,p.sources,p.links,p.racks)
def wV (p:ay):Option (Int × (List Source) × (List Link) × (List aL)):=
 some (p.buses,p.sources,p.links,p.racks)
def wM (p:ay):Option (Int × (List Source) × (List Link) × (List aL)):=
 some (p.buses,p.sources,p.links,p.racks)
def lD (x:Source) (x1:Int) (x11:(List Source)) (x12:(List Link)) (x13:(List aL)):Option Bool:=
 (aV x.bus 0 (IntKind.wrap .i64 (x1 - 1))).bind fun r_=>
 (bif gB [(r_,true)]then aV x.kind 1 3 else some default).bind fun r_1=>
 (bif gB [((bif r_ then r_1 else false),true)]then aV x.power 1 100000 else some default).bind fun r_2=>
 (bif gB [((bif (bif r_ then r_1 else false)then r_2 else false),true)]then aV x.sync 0 8 else some default).bind fun r_3=>
 (bif gB [((bif (bif (bif r_ then r_1 else false)then r_2 else false)then r_3 else false),true)]then aV x.ohm 10 100000 else some default).bind fun r_4=>
 some (bif (bif (bif (bif r_ then r_1 else false)then r_2 else false)then r_3 else false)then r_4 else false)
def si (x:Source) (x1:Int) (x11:(List Source)) (x12:(List Link)) (x13:(List aL)):Option Bool:=
 (lD x x1 x11 x12 x13).bind fun r_=>
 some (!r_)
def kz (s_:(List Source)) (f_:Int) (f_1:(List Source)) (f_2:(List Link)) (f_3:(List aL)):Int→Option (dG Int (Ex Unit Int)):=
 fun t8=>
 bif (decide (t8<(s_.length:Int)))then
 (si (at' s_ t8.toNat) f_ f_1 f_2 f_3).bind fun r_=>
 bn ((0:Int)≤t8∧t8<(s_.length:Int)) (
 bif r_ then
 some (.done (.ret t8))
 else
 some (.next (IntKind.wrap .i64 (t8+1))))
 else
 some (.done (.brk ()))
def mE (s_:(List Source)) (f_:Int) (f_1:(List Source)) (f_2:(List Link)) (f_3:(List aL)):Option Int:=
 Option.bind (aW (kz s_ f_ f_1 f_2 f_3) FUEL (0)) fun o=>match o with
 | .ret v=>some v
 | .brk _=>
 some (-1)
def iB (s_:(List Source)) (f_:Int) (f_1:(List Source)) (f_2:(List Link)) (f_3:(List aL)):Option Bool:=
 (mE s_ f_ f_1 f_2 f_3).bind fun r_=>
 some (decide (0≤r_))
def qw (l:(List Source)) (most:Int) (right:Int) (right1:(List Source)) (right2:(List Link)) (right3:(List aL)):Option Bool:=
 (bif gB [((decide ((l.length:Int)≤most)),true)]then iB l right right1 right2 right3 else some default).bind fun r_=>
 some (bif (decide ((l.length:Int)≤most))then(!r_)else false)
def kI (x:Link):Int→Option (dG Int (Ex Unit Bool)):=
 fun t50=>
 bif (decide (t50<(x.trip.length:Int)))then
 bn ((0:Int)≤t50∧t50<(x.trip.length:Int)) (
 (aV ((at' x.trip t50.toNat).amps) 1 1000000).bind fun r_5=>
 (bif gB [((!r_5),false)]then aV ((at' x.trip t50.toNat).millis) 1 100000 else some default).bind fun r_6=>
 bn ((gB [((decide (0<t50)),true),((bif (!r_5)then true else(!r_6)),false)]=true→(0:Int)≤(IntKind.wrap .i64 (t50 - 1))∧(IntKind.wrap .i64 (t50 - 1))<(x.trip.length:Int))∧(gB [((decide (((at' x.trip t50.toNat).amps)≤((at' x.trip ((IntKind.wrap .i64 (t50 - 1)).toNat)).amps))),false),((decide (0<t50)),true),((bif (!r_5)then true else(!r_6)),false)]=true→(0:Int)≤(IntKind.wrap .i64 (t50 - 1))∧(IntKind.wrap .i64 (t50 - 1))<(x.trip.length:Int))) (
 bif (bif (bif (!r_5)then true else(!r_6))then true else(bif (decide (0<t50))then(bif (decide (((at' x.trip t50.toNat).amps)≤((at' x.trip ((IntKind.wrap .i64 (t50 - 1)).toNat)).amps)))then true else(decide (((at' x.trip ((IntKind.wrap .i64 (t50 - 1)).toNat)).millis)≤((at' x.trip t50.toNat).millis))))else false))then
 some (.done (.ret false))
 else
 some (.next (IntKind.wrap .i64 (t50+1)))))
 else
 some (.done (.brk ()))
def ny (x:Link) (x1:Int) (x11:(List Source)) (x12:(List Link)) (x13:(List aL)):Option Bool:=
 (aV x.a 0 (IntKind.wrap .i64 (x1 - 1))).bind fun r_=>
 (bif gB [((!r_),false)]then aV x.b 0 (IntKind.wrap .i64 (x1 - 1))else some default).bind fun r_1=>
 (bif gB [((bif (bif (!r_)then true else(!r_1))then true else(decide (x.a=x.b))),false)]then aV x.kind 1 3 else some default).bind fun r_2=>
 (bif gB [((bif (bif (bif (!r_)then true else(!r_1))then true else(decide (x.a=x.b)))then true else(!r_2)),false)]then aV x.most 1 100000 else some default).bind fun r_3=>
 (bif gB [((bif (bif (bif (bif (!r_)then true else(!r_1))then true else(decide (x.a=x.b)))then true else(!r_2))then true else(!r_3)),false)]then aV x.ohm 10 100000 else some default).bind fun r_4=>
 bif (bif (bif (bif (bif (bif (!r_)then true else(!r_1))then true else(decide (x.a=x.b)))then true else(!r_2))then true else(!r_3))then true else(!r_4))then
 some false
 else
 Option.bind (aW (kI x) FUEL (0)) fun o=>match o with
 | .ret v=>some v
 | .brk _=>
 some (bif (decide ((x.trip.length:Int)≤6))then(bif (decide ((x.trip.length:Int)=0))then true else(decide (x.kind=3)))else false)
def nk (x:Link) (x1:Int) (x11:(List Source)) (x12:(List Link)) (x13:(List aL)):Option Bool:=
 (ny x x1 x11 x12 x13).bind fun r_=>
 some (!r_)
def ja (s_:(List Link)) (f_:Int) (f_1:(List Source)) (f_2:(List Link)) (f_3:(List aL)):Int→Option (dG Int (Ex Unit Int)):=
 fun t8=>
 bif (decide (t8<(s_.length:Int)))then
 (nk (at' s_ t8.toNat) f_ f_1 f_2 f_3).bind fun r_=>
 bn ((0:Int)≤t8∧t8<(s_.length:Int)) (
 bif r_ then
 some (.done (.ret t8))
 else
 some (.next (IntKind.wrap .i64 (t8+1))))
 else
 some (.done (.brk ()))
def kC (s_:(List Link)) (f_:Int) (f_1:(List Source)) (f_2:(List Link)) (f_3:(List aL)):Option Int:=
 Option.bind (aW (ja s_ f_ f_1 f_2 f_3) FUEL (0)) fun o=>match o with
 | .ret v=>some v
 | .brk _=>
 some (-1)
def fO (s_:(List Link)) (f_:Int) (f_1:(List Source)) (f_2:(List Link)) (f_3:(List aL)):Option Bool:=
 (kC s_ f_ f_1 f_2 f_3).bind fun r_=>
 some (decide (0≤r_))
def nO (l:(List Link)) (most:Int) (right:Int) (right1:(List Source)) (right2:(List Link)) (right3:(List aL)):Option Bool:=
 (bif gB [((decide ((l.length:Int)≤most)),true)]then fO l right right1 right2 right3 else some default).bind fun r_=>
 some (bif (decide ((l.length:Int)≤most))then(!r_)else false)
def oO (x:aL):Option Int:=
 bif (decide (x.feeds.e1=(-1)))then
 some 1
 else
 some 2
def mY (x:aL) (x1:Int) (x11:(List Source)) (x12:(List Link)) (x13:(List aL)):Option Bool:=
 (aV x.feeds.e0 0 (IntKind.wrap .i64 (x1 - 1))).bind fun r_=>
 (bif gB [(r_,true)]then aV x.feeds.e1 (-1) (IntKind.wrap .i64 (x1 - 1))else some default).bind fun r_1=>
 (bif gB [((bif (bif r_ then r_1 else false)then(!decide (x.feeds.e0=x.feeds.e1))else false),true)]then aV x.power 1 100000 else some default).bind fun r_2=>
 (bif gB [((bif (bif (bif r_ then r_1 else false)then(!decide (x.feeds.e0=x.feeds.e1))else false)then r_2 else false),true)]then oO x else some default).bind fun r_3=>
 (bif gB [((bif (bif (bif r_ then r_1 else false)then(!decide (x.feeds.e0=x.feeds.e1))else false)then r_2 else false),true)]then aV x.paths 0 r_3 else some default).bind fun r_4=>
 some (bif (bif (bif (bif r_ then r_1 else false)then(!decide (x.feeds.e0=x.feeds.e1))else false)then r_2 else false)then r_4 else false)
def nI (x:aL) (x1:Int) (x11:(List Source)) (x12:(List Link)) (x13:(List aL)):Option Bool:=
 (mY x x1 x11 x12 x13).bind fun r_=>
 some (!r_)
def iY (s_:(List aL)) (f_:Int) (f_1:(List Source)) (f_2:(List Link)) (f_3:(List aL)):Int→Option (dG Int (Ex Unit Int)):=
 fun t8=>
 bif (decide (t8<(s_.length:Int)))then
 (nI (⟨((at' s_ t8.toNat).feeds),(at' s_ t8.toNat).power,(at' s_ t8.toNat).paths⟩:aL) f_ f_1 f_2 f_3).bind fun r_=>
 bn ((0:Int)≤t8∧t8<(s_.length:Int)) (
 bif r_ then
 some (.done (.ret t8))
 else
 some (.next (IntKind.wrap .i64 (t8+1))))
 else
 some (.done (.brk ()))
def kD (s_:(List aL)) (f_:Int) (f_1:(List Source)) (f_2:(List Link)) (f_3:(List aL)):Option Int:=
 Option.bind (aW (iY s_ f_ f_1 f_2 f_3) FUEL (0)) fun o=>match o with
 | .ret v=>some v
 | .brk _=>
 some (-1)
def fQ (s_:(List aL)) (f_:Int) (f_1:(List Source)) (f_2:(List Link)) (f_3:(List aL)):Option Bool:=
 (kD s_ f_ f_1 f_2 f_3).bind fun r_=>
 some (decide (0≤r_))
def nu (l:(List aL)) (most:Int) (right:Int) (right1:(List Source)) (right2:(List Link)) (right3:(List aL)):Option Bool:=
 (bif gB [((decide ((l.length:Int)≤most)),true)]then fQ l right right1 right2 right3 else some default).bind fun r_=>
 some (bif (decide ((l.length:Int)≤most))then(!r_)else false)
def oP (p:ay):Option Int:=
 (aV p.buses 1 24).bind fun r_=>
 bif (!r_)then
 some 10
 else
 (rJ p).bind fun r_1=>
 (qw p.sources 8 r_1.1 r_1.2.1 r_1.2.2.1 r_1.2.2.2).bind fun r_2=>
 bif (!r_2)then
 some 11
 else
 (wV p).bind fun r_3=>
 (nO p.links 40 r_3.1 r_3.2.1 r_3.2.2.1 r_3.2.2.2).bind fun r_4=>
 bif (!r_4)then
 some 12
 else
 (wM p).bind fun r_5=>
 (nu p.racks 24 r_5.1 r_5.2.1 r_5.2.2.1 r_5.2.2.2).bind fun r_6=>
 bif (!r_6)then
 some 13
 else
 some 0
def iD (p:ay) (s_:State):Int→Option (dG Int (Ex Unit Int)):=
 fun t55=>
 bif (decide (t55<([(⟨s_.closed,(p.links.length:Int)⟩:cK),(⟨s_.locked,(p.links.length:Int)⟩:cK),(⟨s_.badLink,(p.links.length:Int)⟩:cK),(⟨s_.on_,(p.sources.length:Int)⟩:cK),(⟨s_.badSource,(p.sources.length:Int)⟩:cK),(⟨s_.earthed,p.buses⟩:cK),(⟨s_.badBus,p.buses⟩:cK)].length:Int)))then
 bn ((0:Int)≤t55∧t55<([(⟨s_.closed,(p.links.length:Int)⟩:cK),(⟨s_.locked,(p.links.length:Int)⟩:cK),(⟨s_.badLink,(p.links.length:Int)⟩:cK),(⟨s_.on_,(p.sources.length:Int)⟩:cK),(⟨s_.badSource,(p.sources.length:Int)⟩:cK),(⟨s_.earthed,p.buses⟩:cK),(⟨s_.badBus,p.buses⟩:cK)].length:Int)) (
 bif (!decide ((((at' [(⟨s_.closed,(p.links.length:Int)⟩:cK),(⟨s_.locked,(p.links.length:Int)⟩:cK),(⟨s_.badLink,(p.links.length:Int)⟩:cK),(⟨s_.on_,(p.sources.length:Int)⟩:cK),(⟨s_.badSource,(p.sources.length:Int)⟩:cK),(⟨s_.earthed,p.buses⟩:cK),(⟨s_.badBus,p.buses⟩:cK)] t55.toNat).l).length:Int)=((at' [(⟨s_.closed,(p.links.length:Int)⟩:cK),(⟨s_.locked,(p.links.length:Int)⟩:cK),(⟨s_.badLink,(p.links.length:Int)⟩:cK),(⟨s_.on_,(p.sources.length:Int)⟩:cK),(⟨s_.badSource,(p.sources.length:Int)⟩:cK),(⟨s_.earthed,p.buses⟩:cK),(⟨s_.badBus,p.buses⟩:cK)] t55.toNat).n)))then
 some (.done (.ret 9))
 else
 some (.next (IntKind.wrap .i64 (t55+1))))
 else
 some (.done (.brk ()))
def iA (p:ay) (s_:State):Int→Option (dG Int (Ex Unit Int)):=
 fun t69=>
 bif (decide (t69<(p.links.length:Int)))then
 bn ((0:Int)≤t69∧t69<(p.links.length:Int)) (
 bn ((gB [((decide (((at' p.links t69.toNat).kind)=1)),true)]=true→(0:Int)≤t69∧t69<(s_.closed.length:Int))∧(gB [((!(at' s_.closed t69.toNat)),false),((decide (((at' p.links t69.toNat).kind)=1)),true)]=true→(0:Int)≤t69∧t69<(s_.locked.length:Int))) (
 bif (bif (decide (((at' p.links t69.toNat).kind)=1))then(bif (!(at' s_.closed t69.toNat))then true else(at' s_.locked t69.toNat))else false)then
 some (.done (.ret 9))
 else
 some (.next (IntKind.wrap .i64 (t69+1)))))
 else
 some (.done (.brk ()))
def di (p:ay) (s_:State):Option Int:=
 (oP p).bind fun r_=>
 bif (!decide (r_=0))then
 some r_
 else
 Option.bind (aW (iD p s_) FUEL (0)) fun o=>match o with
 | .ret v=>some v
 | .brk _=>
 Option.bind (aW (iA p s_) FUEL (0)) fun o=>match o with
 | .ret v=>some v
 | .brk _=>
 some 0
def mD (i:Int) (x1:Int):Option Bool:=
 some (bif (decide (i<0))then true else(decide (x1≤i)))
def jd (s_:(List Int)) (f_:Int):Int→Option (dG Int (Ex Unit Int)):=
 fun t8=>
 bif (decide (t8<(s_.length:Int)))then
 (mD (at' s_ t8.toNat) f_).bind fun r_=>
 bn ((0:Int)≤t8∧t8<(s_.length:Int)) (
 bif r_ then
 some (.done (.ret t8))
 else
 some (.next (IntKind.wrap .i64 (t8+1))))
 else
 some (.done (.brk ()))
def ku (s_:(List Int)) (f_:Int):Option Int:=
 Option.bind (aW (jd s_ f_) FUEL (0)) fun o=>match o with
 | .ret v=>some v
 | .brk _=>
 some (-1)
def gG (s_:(List Int)) (f_:Int):Option Bool:=
 (ku s_ f_).bind fun r_=>
 some (decide (0≤r_))
def jB (l:(List Int)) (n:Int):Option Bool:=
 (bif gB [((decide ((l.length:Int)≤24)),true)]then gG l n else some default).bind fun r_=>
 some (bif (decide ((l.length:Int)≤24))then(!r_)else false)
def kR (p:ay) (x:aj):Option Bool:=
 bif (decide (x.deed=1))then
 bif (decide (x.deed=1))then
 bn (gB [((bif (decide (0≤x.index))then(decide (x.index<(p.links.length:Int)))else false),true)]=true→(0:Int)≤x.index∧x.index<(p.links.length:Int)) (
 some (bif (bif (decide (0≤x.index))then(decide (x.index<(p.links.length:Int)))else false)then(!decide (((at' p.links x.index.toNat).kind)=1))else false))
 else
 bif (decide (x.deed=3))then
 bif (decide (x.deed=3))then
 some (bif (decide (0≤x.index))then(decide (x.index<p.buses))else false)
 else
 bif (decide (x.deed=7))then
 bif (decide (x.deed=7))then
 some (bif (decide (0≤x.index))then(decide (x.index<(p.sources.length:Int)))else false)
 else
 bn (gB [((bif (decide (0≤x.index))then(decide (x.index<0))else false),true)]=true→(0:Int)≤x.index∧x.index<(p.links.length:Int)) (
 some (bif (bif (decide (0≤x.index))then(decide (x.index<0))else false)then(!decide (((at' p.links x.index.toNat).kind)=1))else false))
 else
 bif (decide (x.deed=8))then
 some (bif (decide (0≤x.index))then(decide (x.index<(p.sources.length:Int)))else false)
 else
 bn (gB [((bif (decide (0≤x.index))then(decide (x.index<0))else false),true)]=true→(0:Int)≤x.index∧x.index<(p.links.length:Int)) (
 some (bif (bif (decide (0≤x.index))then(decide (x.index<0))else false)then(!decide (((at' p.links x.index.toNat).kind)=1))else false))
 else
 bif (decide (x.deed=4))then
 some (bif (decide (0≤x.index))then(decide (x.index<p.buses))else false)
 else
 bif (decide (x.deed=7))then
 bif (decide (x.deed=7))then
 some (bif (decide (0≤x.index))then(decide (x.index<(p.sources.length:Int)))else false)
 else
 bn (gB [((bif (decide (0≤x.index))then(decide (x.index<0))else false),true)]=true→(0:Int)≤x.index∧x.index<(p.links.length:Int)) (
 some (bif (bif (decide (0≤x.index))then(decide (x.index<0))else false)then(!decide (((at' p.links x.index.toNat).kind)=1))else false))
 else
 bif (decide (x.deed=8))then
 some (bif (decide (0≤x.index))then(decide (x.index<(p.sources.length:Int)))else false)
 else
 bn (gB [((bif (decide (0≤x.index))then(decide (x.index<0))else false),true)]=true→(0:Int)≤x.index∧x.index<(p.links.length:Int)) (
 some (bif (bif (decide (0≤x.index))then(decide (x.index<0))else false)then(!decide (((at' p.links x.index.toNat).kind)=1))else false))
 else
 bif (decide (x.deed=2))then
 bif (decide (x.deed=2))then
 bn (gB [((bif (decide (0≤x.index))then(decide (x.index<(p.links.length:Int)))else false),true)]=true→(0:Int)≤x.index∧x.index<(p.links.length:Int)) (
 some (bif (bif (decide (0≤x.index))then(decide (x.index<(p.links.length:Int)))else false)then(!decide (((at' p.links x.index.toNat).kind)=1))else false))
 else
 bif (decide (x.deed=3))then
 bif (decide (x.deed=3))then
 some (bif (decide (0≤x.index))then(decide (x.index<p.buses))else false)
 else
 bif (decide (x.deed=7))then
 bif (decide (x.deed=7))then
 some (bif (decide (0≤x.index))then(decide (x.index<(p.sources.length:Int)))else false)
 else
 bn (gB [((bif (decide (0≤x.index))then(decide (x.index<0))else false),true)]=true→(0:Int)≤x.index∧x.index<(p.links.length:Int)) (
 some (bif (bif (decide (0≤x.index))then(decide (x.index<0))else false)then(!decide (((at' p.links x.index.toNat).kind)=1))else false))
 else
 bif (decide (x.deed=8))then
 some (bif (decide (0≤x.index))then(decide (x.index<(p.sources.length:Int)))else false)
 else
 bn (gB [((bif (decide (0≤x.index))then(decide (x.index<0))else false),true)]=true→(0:Int)≤x.index∧x.index<(p.links.length:Int)) (
 some (bif (bif (decide (0≤x.index))then(decide (x.index<0))else false)then(!decide (((at' p.links x.index.toNat).kind)=1))else false))
 else
 bif (decide (x.deed=4))then
 some (bif (decide (0≤x.index))then(decide (x.index<p.buses))else false)
 else
 bif (decide (x.deed=7))then
 bif (decide (x.deed=7))then
 some (bif (decide (0≤x.index))then(decide (x.index<(p.sources.length:Int)))else false)
 else
 bn (gB [((bif (decide (0≤x.index))then(decide (x.index<0))else false),true)]=true→(0:Int)≤x.index∧x.index<(p.links.length:Int)) (
 some (bif (bif (decide (0≤x.index))then(decide (x.index<0))else false)then(!decide (((at' p.links x.index.toNat).kind)=1))else false))
 else
 bif (decide (x.deed=8))then
 some (bif (decide (0≤x.index))then(decide (x.index<(p.sources.length:Int)))else false)
 else
 bn (gB [((bif (decide (0≤x.index))then(decide (x.index<0))else false),true)]=true→(0:Int)≤x.index∧x.index<(p.links.length:Int)) (
 some (bif (bif (decide (0≤x.index))then(decide (x.index<0))else false)then(!decide (((at' p.links x.index.toNat).kind)=1))else false))
 else
 bif (decide (x.deed=5))then
 bif (decide (x.deed=5))then
 bn (gB [((bif (decide (0≤x.index))then(decide (x.index<(p.links.length:Int)))else false),true)]=true→(0:Int)≤x.index∧x.index<(p.links.length:Int)) (
 some (bif (bif (decide (0≤x.index))then(decide (x.index<(p.links.length:Int)))else false)then(!decide (((at' p.links x.index.toNat).kind)=1))else false))
 else
 bif (decide (x.deed=3))then
 bif (decide (x.deed=3))then
 some (bif (decide (0≤x.index))then(decide (x.index<p.buses))else false)
 else
 bif (decide (x.deed=7))then
 bif (decide (x.deed=7))then
 some (bif (decide (0≤x.index))then(decide (x.index<(p.sources.length:Int)))else false)
 else
 bn (gB [((bif (decide (0≤x.index))then(decide (x.index<0))else false),true)]=true→(0:Int)≤x.index∧x.index<(p.links.length:Int)) (
 some (bif (bif (decide (0≤x.index))then(decide (x.index<0))else false)then(!decide (((at' p.links x.index.toNat).kind)=1))else false))
 else
 bif (decide (x.deed=8))then
 some (bif (decide (0≤x.index))then(decide (x.index<(p.sources.length:Int)))else false)
 else
 bn (gB [((bif (decide (0≤x.index))then(decide (x.index<0))else false),true)]=true→(0:Int)≤x.index∧x.index<(p.links.length:Int)) (
 some (bif (bif (decide (0≤x.index))then(decide (x.index<0))else false)then(!decide (((at' p.links x.index.toNat).kind)=1))else false))
 else
 bif (decide (x.deed=4))then
 some (bif (decide (0≤x.index))then(decide (x.index<p.buses))else false)
 else
 bif (decide (x.deed=7))then
 bif (decide (x.deed=7))then
 some (bif (decide (0≤x.index))then(decide (x.index<(p.sources.length:Int)))else false)
 else
 bn (gB [((bif (decide (0≤x.index))then(decide (x.index<0))else false),true)]=true→(0:Int)≤x.index∧x.index<(p.links.length:Int)) (
 some (bif (bif (decide (0≤x.index))then(decide (x.index<0))else false)then(!decide (((at' p.links x.index.toNat).kind)=1))else false))
 else
 bif (decide (x.deed=8))then
 some (bif (decide (0≤x.index))then(decide (x.index<(p.sources.length:Int)))else false)
 else
 bn (gB [((bif (decide (0≤x.index))then(decide (x.index<0))else false),true)]=true→(0:Int)≤x.index∧x.index<(p.links.length:Int)) (
 some (bif (bif (decide (0≤x.index))then(decide (x.index<0))else false)then(!decide (((at' p.links x.index.toNat).kind)=1))else false))
 else
 bif (decide (x.deed=6))then
 bn (gB [((bif (decide (0≤x.index))then(decide (x.index<(p.links.length:Int)))else false),true)]=true→(0:Int)≤x.index∧x.index<(p.links.length:Int)) (
 some (bif (bif (decide (0≤x.index))then(decide (x.index<(p.links.length:Int)))else false)then(!decide (((at' p.links x.index.toNat).kind)=1))else false))
 else
 bif (decide (x.deed=3))then
 bif (decide (x.deed=3))then
 some (bif (decide (0≤x.index))then(decide (x.index<p.buses))else false)
 else
 bif (decide (x.deed=7))then
 bif (decide (x.deed=7))then
 some (bif (decide (0≤x.index))then(decide (x.index<(p.sources.length:Int)))else false)
 else
 bn (gB [((bif (decide (0≤x.index))then(decide (x.index<0))else false),true)]=true→(0:Int)≤x.index∧x.index<(p.links.length:Int)) (
 some (bif (bif (decide (0≤x.index))then(decide (x.index<0))else false)then(!decide (((at' p.links x.index.toNat).kind)=1))else false))
 else
 bif (decide (x.deed=8))then
 some (bif (decide (0≤x.index))then(decide (x.index<(p.sources.length:Int)))else false)
 else
 bn (gB [((bif (decide (0≤x.index))then(decide (x.index<0))else false),true)]=true→(0:Int)≤x.index∧x.index<(p.links.length:Int)) (
 some (bif (bif (decide (0≤x.index))then(decide (x.index<0))else false)then(!decide (((at' p.links x.index.toNat).kind)=1))else false))
 else
 bif (decide (x.deed=4))then
 some (bif (decide (0≤x.index))then(decide (x.index<p.buses))else false)
 else
 bif (decide (x.deed=7))then
 bif (decide (x.deed=7))then
 some (bif (decide (0≤x.index))then(decide (x.index<(p.sources.length:Int)))else false)
 else
 bn (gB [((bif (decide (0≤x.index))then(decide (x.index<0))else false),true)]=true→(0:Int)≤x.index∧x.index<(p.links.length:Int)) (
 some (bif (bif (decide (0≤x.index))then(decide (x.index<0))else false)then(!decide (((at' p.links x.index.toNat).kind)=1))else false))
 else
 bif (decide (x.deed=8))then
 some (bif (decide (0≤x.index))then(decide (x.index<(p.sources.length:Int)))else false)
 else
 bn (gB [((bif (decide (0≤x.index))then(decide (x.index<0))else false),true)]=true→(0:Int)≤x.index∧x.index<(p.links.length:Int)) (
 some (bif (bif (decide (0≤x.index))then(decide (x.index<0))else false)then(!decide (((at' p.links x.index.toNat).kind)=1))else false))
def mF (x:aj) (x1:Int) (x11:(List Source)) (x12:(List Link)) (x13:(List aL)):Option Bool:=
 (kR (⟨x1,x11,x12,x13⟩:ay) x).bind fun r_=>
 some (!r_)
def jb (s_:(List aj)) (f_:Int) (f_1:(List Source)) (f_2:(List Link)) (f_3:(List aL)):Int→Option (dG Int (Ex Unit Int)):=
 fun t8=>
 bif (decide (t8<(s_.length:Int)))then
 (mF (at' s_ t8.toNat) f_ f_1 f_2 f_3).bind fun r_=>
 bn ((0:Int)≤t8∧t8<(s_.length:Int)) (
 bif r_ then
 some (.done (.ret t8))
 else
 some (.next (IntKind.wrap .i64 (t8+1))))
 else
 some (.done (.brk ()))
def kE (s_:(List aj)) (f_:Int) (f_1:(List Source)) (f_2:(List Link)) (f_3:(List aL)):Option Int:=
 Option.bind (aW (jb s_ f_ f_1 f_2 f_3) FUEL (0)) fun o=>match o with
 | .ret v=>some v
 | .brk _=>
 some (-1)
def gy (s_:(List aj)) (f_:Int) (f_1:(List Source)) (f_2:(List Link)) (f_3:(List aL)):Option Bool:=
 (kE s_ f_ f_1 f_2 f_3).bind fun r_=>
 some (decide (0≤r_))
def jv (l:(List aj)) (x1:Int) (x11:(List Source)) (x12:(List Link)) (x13:(List aL)):Option Bool:=
 (bif gB [((decide ((l.length:Int)≤24)),true)]then gy l x1 x11 x12 x13 else some default).bind fun r_=>
 some (bif (decide ((l.length:Int)≤24))then(!r_)else false)
def ni (p:ay) (t:Task):Option Bool:=
 (jB t.fed (p.racks.length:Int)).bind fun r_=>
 (bif gB [(r_,true)]then jB t.crew p.buses else some default).bind fun r_1=>
 (bif gB [((bif r_ then r_1 else false),true)]then jv t.allowed p.buses p.sources p.links p.racks else some default).bind fun r_2=>
 (bif gB [((bif (bif r_ then r_1 else false)then r_2 else false),true)]then jv t.goal p.buses p.sources p.links p.racks else some default).bind fun r_3=>
 some (bif (bif (bif r_ then r_1 else false)then r_2 else false)then r_3 else false)
def jQ (p:ay) (s_:State):Option (Int × (List Source) × (List Link) × (List aL) × (List Bool) × (List Bool) × (List Bool) × (List Bool) × (List Bool) × (List Bool) × (List Bool)):=
 some (p.buses,p.sources,p.links,p.racks,s_.closed,s_.locked,s_.badLink,s_.on_,s_.badSource,s_.earthed,s_.badBus)
def eO (g:bg):Int→Option (dG Int (Ex Unit Int)):=
 fun x1=>
 bif (!((bD aS x1 g.head).isSome))then
 some (.done (.ret x1))
 else
 some (.next ((bD aS x1 g.head).getD 0))
def dh (g:bg) (x:Int):Option Int:=
 Option.bind (aW (eO g) FUEL (x)) fun o=>match o with
 | .ret v=>some v
 | .brk _=>none
def jk (g:bg) (a:Int) (b:Int):Option (List (Int × Int)):=
 (dh g a).bind fun r_=>
 (dh g b).bind fun r_1=>
 bif (!decide (r_=r_1))then
 some (fe aS r_ r_1 g.head)
 else
 some g.head
def kU (x22:Int) (x221:Int) (x222:Int) (x223:Int) (x224:Int) (x225:(List dU)) (o_:bg):Option bg:=
 (jk o_ x22 x221).bind fun r_=>
 some (⟨r_⟩:bg)
def dI (x12:(List Link)) (x2:(List Bool)) (x22:(List Bool)) (x26:(List Bool)):((List (Int × Int)) × Int)→Option (dG ((List (Int × Int)) × Int) (Ex (List (Int × Int)) bg)):=
 fun zz=>match zz with
 |(o0,t9)=>
 bif (decide (t9<(x12.length:Int)))then
 bn ((0:Int)≤t9∧t9<(x12.length:Int)) (
 bif (bif (bif (bif (at' x2 t9.toNat)then(!(at' x22 t9.toNat))else false)then(!(at' x26 (((at' x12 t9.toNat).a).toNat)))else false)then(!(at' x26 (((at' x12 t9.toNat).b).toNat)))else false)then
 (kU ((at' x12 t9.toNat).a) ((at' x12 t9.toNat).b) ((at' x12 t9.toNat).kind) ((at' x12 t9.toNat).most) ((at' x12 t9.toNat).ohm) ((at' x12 t9.toNat).trip) (⟨o0⟩:bg)).bind fun r_=>
 bn (((0:Int)≤t9∧t9<(x2.length:Int))∧(gB [((at' x2 t9.toNat),true)]=true→(0:Int)≤t9∧t9<(x22.length:Int))∧(gB [((bif (at' x2 t9.toNat)then(!(at' x22 t9.toNat))else false),true)]=true→(0:Int)≤(at' x12 t9.toNat).a∧(at' x12 t9.toNat).a<(x26.length:Int))∧(gB [((bif (bif (at' x2 t9.toNat)then(!(at' x22 t9.toNat))else false)then(!(at' x26 (((at' x12 t9.toNat).a).toNat)))else false),true)]=true→(0:Int)≤(at' x12 t9.toNat).b∧(at' x12 t9.toNat).b<(x26.length:Int))) (
 some (.next (r_.head,(IntKind.wrap .i64 (t9+1)))))
 else
 bn (((0:Int)≤t9∧t9<(x2.length:Int))∧(gB [((at' x2 t9.toNat),true)]=true→(0:Int)≤t9∧t9<(x22.length:Int))∧(gB [((bif (at' x2 t9.toNat)then(!(at' x22 t9.toNat))else false),true)]=true→(0:Int)≤(at' x12 t9.toNat).a∧(at' x12 t9.toNat).a<(x26.length:Int))∧(gB [((bif (bif (at' x2 t9.toNat)then(!(at' x22 t9.toNat))else false)then(!(at' x26 (((at' x12 t9.toNat).a).toNat)))else false),true)]=true→(0:Int)≤(at' x12 t9.toNat).b∧(at' x12 t9.toNat).b<(x26.length:Int))) (
 some (.next (o0,(IntKind.wrap .i64 (t9+1))))))
 else
 some (.done (.brk o0))
def kQ (x1:Int) (x11:(List Source)) (x12:(List Link)) (x13:(List aL)) (x2:(List Bool)) (x21:(List Bool)) (x22:(List Bool)) (x23:(List Bool)) (x24:(List Bool)) (x25:(List Bool)) (x26:(List Bool)) (o_:bg):Option bg:=
 Option.bind (aW (dI x12 x2 x22 x26) FUEL (o_.head,0)) fun o=>match o with
 | .ret v=>some v
 | .brk o01=>
 some (⟨o01⟩:bg)
def bN (p:ay) (s_:State) (r_1:bg):((List aH) × (List (Int × Int)) × Int)→Option (dG ((List aH) × (List (Int × Int)) × Int) (Ex ((List aH) × (List (Int × Int))) (List aH))):=
 fun zz=>match zz with
 |(out,at_,t32)=>
 bif (decide (t32<p.buses))then
 bn ((0:Int)≤t32∧t32<(s_.badBus.length:Int)) (
 bif (at' s_.badBus t32.toNat)then
 some (.next (out,at_,(IntKind.wrap .i64 (t32+1))))
 else
 (dh r_1 t32).bind fun r_2=>
 bif (!((bD aS r_2 at_).isSome))then
 bn (((out.length+[(⟨([]:List Int),([]:List Int)⟩:aH)].length)*48≤140737488355328)∧(out.length+[(⟨([]:List Int),([]:List Int)⟩:aH)].length≤4611686018427387904)) (
 bn (((0:Int)≤((bD aS r_2 (fe aS r_2 (out.length:Int) at_)).getD 0)∧((bD aS r_2 (fe aS r_2 (out.length:Int) at_)).getD 0)<((out++[(⟨([]:List Int),([]:List Int)⟩:aH)]).length:Int))∧((((at' (out++[(⟨([]:List Int),([]:List Int)⟩:aH)]) (((bD aS r_2 (fe aS r_2 (out.length:Int) at_)).getD 0).toNat)).buses).length+[t32].length)*8≤140737488355328)∧(((at' (out++[(⟨([]:List Int),([]:List Int)⟩:aH)]) (((bD aS r_2 (fe aS r_2 (out.length:Int) at_)).getD 0).toNat)).buses).length+[t32].length≤4611686018427387904)) (
 some (.next (((out++[(⟨([]:List Int),([]:List Int)⟩:aH)]).set (((bD aS r_2 (fe aS r_2 (out.length:Int) at_)).getD 0).toNat) (⟨(((at' (out++[(⟨([]:List Int),([]:List Int)⟩:aH)]) (((bD aS r_2 (fe aS r_2 (out.length:Int) at_)).getD 0).toNat)).buses)++[t32]),(at' (out++[(⟨([]:List Int),([]:List Int)⟩:aH)]) (((bD aS r_2 (fe aS r_2 (out.length:Int) at_)).getD 0).toNat)).sources⟩:aH)),(fe aS r_2 (out.length:Int) at_),(IntKind.wrap .i64 (t32+1))))))
 else
 bn (((0:Int)≤((bD aS r_2 at_).getD 0)∧((bD aS r_2 at_).getD 0)<(out.length:Int))∧((((at' out (((bD aS r_2 at_).getD 0).toNat)).buses).length+[t32].length)*8≤140737488355328)∧(((at' out (((bD aS r_2 at_).getD 0).toNat)).buses).length+[t32].length≤4611686018427387904)) (
 some (.next ((out.set (((bD aS r_2 at_).getD 0).toNat) (⟨(((at' out (((bD aS r_2 at_).getD 0).toNat)).buses)++[t32]),(at' out (((bD aS r_2 at_).getD 0).toNat)).sources⟩:aH)),at_,(IntKind.wrap .i64 (t32+1))))))
 else
 some (.done (.brk (out,at_)))
def bM (p:ay) (s_:State) (r_1:bg) (at_1:(List (Int × Int))):((List aH) × Int)→Option (dG ((List aH) × Int) (Ex (List aH) (List aH))):=
 fun zz=>match zz with
 |(out2,t78)=>
 bif (decide (t78<(p.sources.length:Int)))then
 bn ((0:Int)≤t78∧t78<(p.sources.length:Int)) (
 bn (((0:Int)≤t78∧t78<(s_.on_.length:Int))∧(gB [((at' s_.on_ t78.toNat),true)]=true→(0:Int)≤t78∧t78<(s_.badSource.length:Int))∧(gB [((bif (at' s_.on_ t78.toNat)then(!(at' s_.badSource t78.toNat))else false),true)]=true→(0:Int)≤(at' p.sources t78.toNat).bus∧(at' p.sources t78.toNat).bus<(s_.badBus.length:Int))) (
 bif (bif (bif (at' s_.on_ t78.toNat)then(!(at' s_.badSource t78.toNat))else false)then(!(at' s_.badBus (((at' p.sources t78.toNat).bus).toNat)))else false)then
 (dh r_1 ((at' p.sources t78.toNat).bus)).bind fun r_3=>
 bn (((0:Int)≤((bD aS r_3 at_1).getD 0)∧((bD aS r_3 at_1).getD 0)<(out2.length:Int))∧((((at' out2 (((bD aS r_3 at_1).getD 0).toNat)).sources).length+[t78].length)*8≤140737488355328)∧(((at' out2 (((bD aS r_3 at_1).getD 0).toNat)).sources).length+[t78].length≤4611686018427387904)) (
 some (.next ((out2.set (((bD aS r_3 at_1).getD 0).toNat) (⟨(at' out2 (((bD aS r_3 at_1).getD 0).toNat)).buses,(((at' out2 (((bD aS r_3 at_1).getD 0).toNat)).sources)++[t78])⟩:aH)),(IntKind.wrap .i64 (t78+1)))))
 else
 some (.next (out2,(IntKind.wrap .i64 (t78+1))))))
 else
 some (.done (.brk out2))
def fq (p:ay) (s_:State):Option (List aH):=
 (jQ p s_).bind fun r_=>
 (kQ r_.1 r_.2.1 r_.2.2.1 r_.2.2.2.1 r_.2.2.2.2.1 r_.2.2.2.2.2.1 r_.2.2.2.2.2.2.1 r_.2.2.2.2.2.2.2.1 r_.2.2.2.2.2.2.2.2.1 r_.2.2.2.2.2.2.2.2.2.1 r_.2.2.2.2.2.2.2.2.2.2 (⟨([]:(List (Int × Int)))⟩:bg)).bind fun r_1=>
 Option.bind (aW (bN p s_ r_1) FUEL (([]:List aH),([]:(List (Int × Int))),0)) fun o=>match o with
 | .ret v=>some v
 | .brk (out1,at_1)=>
 Option.bind (aW (bM p s_ r_1 at_1) FUEL (out1,0)) fun o=>match o with
 | .ret v=>some v
 | .brk out3=>
 some out3
def j6 (r_1:(List aH)) (t25:Int):((List Bool) × Int)→Option (dG ((List Bool) × Int) (Ex (List Bool) (dG ((List Bool) × Int) (Ex (List Bool) ((List Bool) × Int))))):=
 fun zz=>match zz with
 |(out2,t32)=>
 bif (decide (t32<(((at' r_1 t25.toNat).buses).length:Int)))then
 bn ((0:Int)≤t32∧t32<(((at' r_1 t25.toNat).buses).length:Int)) (
 bn ((0:Int)≤(at' ((at' r_1 t25.toNat).buses) t32.toNat)∧(at' ((at' r_1 t25.toNat).buses) t32.toNat)<(out2.length:Int)) (
 some (.next ((out2.set ((at' ((at' r_1 t25.toNat).buses) t32.toNat).toNat) (decide (0<(((at' r_1 t25.toNat).sources).length:Int)))),(IntKind.wrap .i64 (t32+1))))))
 else
 some (.done (.brk out2))
def jZ (r_1:(List aH)):((List Bool) × Int)→Option (dG ((List Bool) × Int) (Ex (List Bool) ((List Bool) × Int))):=
 fun zz=>match zz with
 |(out,t25)=>
 bif (decide (t25<(r_1.length:Int)))then
 bn ((0:Int)≤t25∧t25<(r_1.length:Int)) (
 Option.bind (aW (j6 r_1 t25) FUEL (out,0)) fun o=>match o with
 | .ret v=>some v
 | .brk out3=>
 some (.next (out3,(IntKind.wrap .i64 (t25+1)))))
 else
 some (.done (.brk out))
def gT (p:ay) (s_:State):Option ((List Bool) × Int):=
 (di p s_).bind fun r_=>
 bif (!decide (r_=0))then
 some (([]:List Bool),r_)
 else
 bn (((0:Int)≤p.buses)∧((1:Int)*p.buses≤281474976710656)∧((p.buses:Int)≤9223372036854775807)) (
 (fq p s_).bind fun r_1=>
 Option.bind (aW (jZ r_1) FUEL ((List.replicate p.buses.toNat (false:Bool)),0)) fun o=>match o with
 | .ret v=>some v
 | .brk out1=>
 some (out1,0))
def jw (p:ay) (r_:((List Bool) × Int)):((List aB) × Int)→Option (dG ((List aB) × Int) (Ex (List aB) ((List aB) × Int))):=
 fun zz=>match zz with
 |(out,t26)=>
 bif (decide (t26<(p.racks.length:Int)))then
 bn ((0:Int)≤t26∧t26<(p.racks.length:Int)) (
 bn (gB [((decide (0≤(((at' p.racks t26.toNat).feeds).e0))),true)]=true→(0:Int)≤((at' p.racks t26.toNat).feeds).e0∧((at' p.racks t26.toNat).feeds).e0<(r_.1.length:Int)) (
 bn (gB [((decide (0≤(((at' p.racks t26.toNat).feeds).e1))),true)]=true→(0:Int)≤((at' p.racks t26.toNat).feeds).e1∧((at' p.racks t26.toNat).feeds).e1<(r_.1.length:Int)) (
 bn (((out.length+[(⟨(bif (decide (0≤(((at' p.racks t26.toNat).feeds).e0)))then(at' r_.1 ((((at' p.racks t26.toNat).feeds).e0).toNat))else false),(bif (decide (0≤(((at' p.racks t26.toNat).feeds).e1)))then(at' r_.1 ((((at' p.racks t26.toNat).feeds).e1).toNat))else false)⟩:aB)].length)*2≤140737488355328)∧(out.length+[(⟨(bif (decide (0≤(((at' p.racks t26.toNat).feeds).e0)))then(at' r_.1 ((((at' p.racks t26.toNat).feeds).e0).toNat))else false),(bif (decide (0≤(((at' p.racks t26.toNat).feeds).e1)))then(at' r_.1 ((((at' p.racks t26.toNat).feeds).e1).toNat))else false)⟩:aB)].length≤4611686018427387904)) (
 some (.next ((out++[(⟨(bif (decide (0≤(((at' p.racks t26.toNat).feeds).e0)))then(at' r_.1 ((((at' p.racks t26.toNat).feeds).e0).toNat))else false),(bif (decide (0≤(((at' p.racks t26.toNat).feeds).e1)))then(at' r_.1 ((((at' p.racks t26.toNat).feeds).e1).toNat))else false)⟩:aB)]),(IntKind.wrap .i64 (t26+1))))))))
 else
 some (.done (.brk out))
def oW (p:ay) (s_:State):Option ((List aB) × Int):=
 (gT p s_).bind fun r_=>
 bif (!decide (r_.2=0))then
 some (([]:List aB),r_.2)
 else
 Option.bind (aW (jw p r_) FUEL (([]:List aB),0)) fun o=>match o with
 | .ret v=>some v
 | .brk out1=>
 some (out1,0)
def bI (x y:aO):Int:=if x.e0<y.e0 then -1 else if y.e0<x.e0 then 1 else if x.e1<y.e1 then -1 else if y.e1<x.e1 then 1 else 0
def iO (s:(List aO)):Option (List aO):=match s with
 |[]=>some []
 |x::xs=>bif decide ((x::xs).length<4611686018427387904)then some ((x::xs).mergeSort fun x y=> !decide (bI y x<0))else none
def jK (p:ay) (r_1:(List aH)) (t24:Int) (t31:Int):((List aO) × Int)→Option (dG ((List aO) × Int) (Ex (List aO) (dG ((List aO) × Int) (Ex (List aO) (dG ((List aO) × Int) (Ex (List aO) ((List aO) × Int))))))):=
 fun zz=>match zz with
 |(out4,t42)=>
 bif (decide (t42<(((((at' r_1 t24.toNat).sources).length - ((IntKind.wrap .i64 (t31+1)).toNat)):Nat):Int)))then
 bn ((0:Int)≤t42∧t42<((((at' r_1 t24.toNat).sources).drop ((IntKind.wrap .i64 (t31+1)).toNat)).length:Int)) (
 bn (((0:Int)≤(at' ((at' r_1 t24.toNat).sources) t31.toNat)∧(at' ((at' r_1 t24.toNat).sources) t31.toNat)<(p.sources.length:Int))∧(gB [((decide (((at' p.sources ((at' ((at' r_1 t24.toNat).sources) t31.toNat).toNat)).sync)=0)),false)]=true→(0:Int)≤(at' ((at' r_1 t24.toNat).sources) t31.toNat)∧(at' ((at' r_1 t24.toNat).sources) t31.toNat)<(p.sources.length:Int))∧(gB [((decide (((at' p.sources ((at' ((at' r_1 t24.toNat).sources) t31.toNat).toNat)).sync)=0)),false)]=true→(0:Int)≤(at' (((at' r_1 t24.toNat).sources).drop ((IntKind.wrap .i64 (t31+1)).toNat)) t42.toNat)∧(at' (((at' r_1 t24.toNat).sources).drop ((IntKind.wrap .i64 (t31+1)).toNat)) t42.toNat)<(p.sources.length:Int))) (
 bif (bif (decide (((at' p.sources ((at' ((at' r_1 t24.toNat).sources) t31.toNat).toNat)).sync)=0))then true else(!decide (((at' p.sources ((at' ((at' r_1 t24.toNat).sources) t31.toNat).toNat)).sync)=((at' p.sources ((at' (((at' r_1 t24.toNat).sources).drop ((IntKind.wrap .i64 (t31+1)).toNat)) t42.toNat).toNat)).sync))))then
 bn (((out4.length+[(⟨(at' ((at' r_1 t24.toNat).sources) t31.toNat),(at' (((at' r_1 t24.toNat).sources).drop ((IntKind.wrap .i64 (t31+1)).toNat)) t42.toNat)⟩:aO)].length)*16≤140737488355328)∧(out4.length+[(⟨(at' ((at' r_1 t24.toNat).sources) t31.toNat),(at' (((at' r_1 t24.toNat).sources).drop ((IntKind.wrap .i64 (t31+1)).toNat)) t42.toNat)⟩:aO)].length≤4611686018427387904)) (
 some (.next ((out4++[(⟨(at' ((at' r_1 t24.toNat).sources) t31.toNat),(at' (((at' r_1 t24.toNat).sources).drop ((IntKind.wrap .i64 (t31+1)).toNat)) t42.toNat)⟩:aO)]),(IntKind.wrap .i64 (t42+1)))))
 else
 some (.next (out4,(IntKind.wrap .i64 (t42+1))))))
 else
 some (.done (.brk out4))
def jS (p:ay) (r_1:(List aH)) (t24:Int):((List aO) × Int)→Option (dG ((List aO) × Int) (Ex (List aO) (dG ((List aO) × Int) (Ex (List aO) ((List aO) × Int))))):=
 fun zz=>match zz with
 |(out2,t31)=>
 bif (decide (t31<(((at' r_1 t24.toNat).sources).length:Int)))then
 bn ((0:Int)≤t31∧t31<(((at' r_1 t24.toNat).sources).length:Int)) (
 bn ((0:Int)≤(IntKind.wrap .i64 (t31+1))∧(IntKind.wrap .i64 (t31+1))≤(((at' r_1 t24.toNat).sources).length:Int)) (
 Option.bind (aW (jK p r_1 t24 t31) FUEL (out2,0)) fun o=>match o with
 | .ret v=>some v
 | .brk out5=>
 some (.next (out5,(IntKind.wrap .i64 (t31+1))))))
 else
 some (.done (.brk out2))
def iw (p:ay) (r_1:(List aH)):((List aO) × Int)→Option (dG ((List aO) × Int) (Ex (List aO) ((List aO) × Int))):=
 fun zz=>match zz with
 |(out,t24)=>
 bif (decide (t24<(r_1.length:Int)))then
 bn ((0:Int)≤t24∧t24<(r_1.length:Int)) (
 Option.bind (aW (jS p r_1 t24) FUEL (out,0)) fun o=>match o with
 | .ret v=>some v
 | .brk out3=>
 some (.next (out3,(IntKind.wrap .i64 (t24+1)))))
 else
 some (.done (.brk out))
def mq (p:ay) (s_:State):Option ((List aO) × Int):=
 (di p s_).bind fun r_=>
 bif (!decide (r_=0))then
 some (([]:List aO),r_)
 else
 (fq p s_).bind fun r_1=>
 Option.bind (aW (iw p r_1) FUEL (([]:List aO),0)) fun o=>match o with
 | .ret v=>some v
 | .brk out1=>
 (iO out1).bind fun r_2=>
 bn (out1.length=r_2.length) (
 some (r_2,0))
def pW (r_:Int) (x1:(List aB)):Option Bool:=
 bn (((0:Int)≤r_∧r_<(x1.length:Int))∧(gB [((!((at' x1 r_.toNat).e0)),true)]=true→(0:Int)≤r_∧r_<(x1.length:Int))) (
 some (bif (!((at' x1 r_.toNat).e0))then(!((at' x1 r_.toNat).e1))else false))
def gV (s_:(List Int)) (f_:(List aB)):Int→Option (dG Int (Ex Unit Int)):=
 fun t8=>
 bif (decide (t8<(s_.length:Int)))then
 (pW (at' s_ t8.toNat) f_).bind fun r_=>
 bn ((0:Int)≤t8∧t8<(s_.length:Int)) (
 bif r_ then
 some (.done (.ret t8))
 else
 some (.next (IntKind.wrap .i64 (t8+1))))
 else
 some (.done (.brk ()))
def iZ (s_:(List Int)) (f_:(List aB)):Option Int:=
 Option.bind (aW (gV s_ f_) FUEL (0)) fun o=>match o with
 | .ret v=>some v
 | .brk _=>
 some (-1)
def eP (s_:(List Int)) (f_:(List aB)):Option Bool:=
 (iZ s_ f_).bind fun r_=>
 some (decide (0≤r_))
def nD (s_:(List Int)) (v_:Int):Int→Option (dG Int (Ex Unit Int)):=
 fun t8=>
 bif (decide (t8<(s_.length:Int)))then
 bn ((0:Int)≤t8∧t8<(s_.length:Int)) (
 bif (decide (v_=(at' s_ t8.toNat)))then
 some (.done (.ret t8))
 else
 some (.next (IntKind.wrap .i64 (t8+1))))
 else
 some (.done (.brk ()))
def rZ (s_:(List Int)) (v_:Int):Option Int:=
 Option.bind (aW (nD s_ v_) FUEL (0)) fun o=>match o with
 | .ret v=>some v
 | .brk _=>
 some (-1)
def iJ (s_:(List Int)) (v_:Int):Option Bool:=
 (rZ s_ v_).bind fun r_=>
 some (decide (0≤r_))
def pQ (p:ay) (s_:State) (b:Int):Int→Option (dG Int (Ex Unit Bool)):=
 fun t22=>
 bif (decide (t22<(p.sources.length:Int)))then
 bn ((0:Int)≤t22∧t22<(p.sources.length:Int)) (
 bn (gB [((decide (((at' p.sources t22.toNat).bus)=b)),true)]=true→(0:Int)≤t22∧t22<(s_.on_.length:Int)) (
 bif (bif (decide (((at' p.sources t22.toNat).bus)=b))then(at' s_.on_ t22.toNat)else false)then
 some (.done (.ret false))
 else
 some (.next (IntKind.wrap .i64 (t22+1)))))
 else
 some (.done (.brk ()))
def p8 (p:ay) (s_:State) (t:Task) (b:Int):Int→Option (dG Int (Ex Unit Bool)):=
 fun t42=>
 bif (decide (t42<(p.links.length:Int)))then
 bn ((0:Int)≤t42∧t42<(p.links.length:Int)) (
 (bif gB [((bif (!decide (((at' p.links t42.toNat).a)=b))then(!decide (((at' p.links t42.toNat).b)=b))else false),false)]then iJ t.crew (IntKind.wrap .i64 ((IntKind.wrap .i64 (((at' p.links t42.toNat).a)+((at' p.links t42.toNat).b))) - b))else some default).bind fun r_=>
 bif (bif (bif (!decide (((at' p.links t42.toNat).a)=b))then(!decide (((at' p.links t42.toNat).b)=b))else false)then true else r_)then
 some (.next (IntKind.wrap .i64 (t42+1)))
 else
 bn ((gB [((decide (((at' p.links t42.toNat).kind)=1)),false)]=true→(0:Int)≤t42∧t42<(s_.closed.length:Int))∧(gB [((bif (decide (((at' p.links t42.toNat).kind)=1))then true else(at' s_.closed t42.toNat)),false)]=true→(0:Int)≤t42∧t42<(s_.locked.length:Int))) (
 bif (bif (bif (decide (((at' p.links t42.toNat).kind)=1))then true else(at' s_.closed t42.toNat))then true else(!(at' s_.locked t42.toNat)))then
 some (.done (.ret false))
 else
 some (.next (IntKind.wrap .i64 (t42+1)))))
 else
 some (.done (.brk ()))
def qp (p:ay) (s_:State) (t:Task) (b:Int):Option Bool:=
 bn ((0:Int)≤b∧b<(s_.earthed.length:Int)) (
 bif (!(at' s_.earthed b.toNat))then
 some false
 else
 Option.bind (aW (pQ p s_ b) FUEL (0)) fun o=>match o with
 | .ret v=>some v
 | .brk _=>
 Option.bind (aW (p8 p s_ t b) FUEL (0)) fun o=>match o with
 | .ret v=>some v
 | .brk _=>
 some true)
def p9 (b:Int) (x1:Int) (x11:(List Source)) (x12:(List Link)) (x13:(List aL)) (x2:(List Bool)) (x21:(List Bool)) (x22:(List Bool)) (x23:(List Bool)) (x24:(List Bool)) (x25:(List Bool)) (x26:(List Bool)) (x3:(List Int)) (x31:(List Int)) (x32:(List aj)) (x33:(List aj)):Option Bool:=
 (qp (⟨x1,x11,x12,x13⟩:ay) (⟨x2,x21,x22,x23,x24,x25,x26⟩:State) (⟨x3,x31,x32,x33⟩:Task) b).bind fun r_=>
 some (!r_)
def gU (s_:(List Int)) (f_:Int) (f_1:(List Source)) (f_2:(List Link)) (f_3:(List aL)) (f_4:(List Bool)) (f_5:(List Bool)) (f_6:(List Bool)) (f_7:(List Bool)) (f_8:(List Bool)) (f_9:(List Bool)) (f_10:(List Bool)) (f_11:(List Int)) (f_12:(List Int)) (f_13:(List aj)) (f_14:(List aj)):Int→Option (dG Int (Ex Unit Int)):=
 fun t8=>
 bif (decide (t8<(s_.length:Int)))then
 (p9 (at' s_ t8.toNat) f_ f_1 f_2 f_3 f_4 f_5 f_6 f_7 f_8 f_9 f_10 f_11 f_12 f_13 f_14).bind fun r_=>
 bn ((0:Int)≤t8∧t8<(s_.length:Int)) (
 bif r_ then
 some (.done (.ret t8))
 else
 some (.next (IntKind.wrap .i64 (t8+1))))
 else
 some (.done (.brk ()))
def jg (s_:(List Int)) (f_:Int) (f_1:(List Source)) (f_2:(List Link)) (f_3:(List aL)) (f_4:(List Bool)) (f_5:(List Bool)) (f_6:(List Bool)) (f_7:(List Bool)) (f_8:(List Bool)) (f_9:(List Bool)) (f_10:(List Bool)) (f_11:(List Int)) (f_12:(List Int)) (f_13:(List aj)) (f_14:(List aj)):Option Int:=
 Option.bind (aW (gU s_ f_ f_1 f_2 f_3 f_4 f_5 f_6 f_7 f_8 f_9 f_10 f_11 f_12 f_13 f_14) FUEL (0)) fun o=>match o with
 | .ret v=>some v
 | .brk _=>
 some (-1)
def eX (s_:(List Int)) (f_:Int) (f_1:(List Source)) (f_2:(List Link)) (f_3:(List aL)) (f_4:(List Bool)) (f_5:(List Bool)) (f_6:(List Bool)) (f_7:(List Bool)) (f_8:(List Bool)) (f_9:(List Bool)) (f_10:(List Bool)) (f_11:(List Int)) (f_12:(List Int)) (f_13:(List aj)) (f_14:(List aj)):Option Bool:=
 (jg s_ f_ f_1 f_2 f_3 f_4 f_5 f_6 f_7 f_8 f_9 f_10 f_11 f_12 f_13 f_14).bind fun r_=>
 some (decide (0≤r_))
def lN (s_:State) (r_:((List Bool) × Int)):Int→Option (dG Int (Ex Unit Int)):=
 fun t23=>
 bif (decide (t23<(r_.1.length:Int)))then
 bn ((0:Int)≤t23∧t23<(r_.1.length:Int)) (
 bn (gB [((at' r_.1 t23.toNat),true)]=true→(0:Int)≤t23∧t23<(s_.earthed.length:Int)) (
 bif (bif (at' r_.1 t23.toNat)then(at' s_.earthed t23.toNat)else false)then
 some (.done (.ret 40))
 else
 some (.next (IntKind.wrap .i64 (t23+1)))))
 else
 some (.done (.brk ()))
def l9 (p:ay) (s_:State) (t:Task):Option Int:=
 (gT p s_).bind fun r_=>
 Option.bind (aW (lN s_ r_) FUEL (0)) fun o=>match o with
 | .ret v=>some v
 | .brk _=>
 (mq p s_).bind fun r_1=>
 bif (decide (0<(r_1.1.length:Int)))then
 some 41
 else
 (oW p s_).bind fun r_2=>
 (eP t.fed r_2.1).bind fun r_3=>
 bif r_3 then
 some 42
 else
 (eX t.crew p.buses p.sources p.links p.racks s_.closed s_.locked s_.badLink s_.on_ s_.badSource s_.earthed s_.badBus t.fed t.crew t.allowed t.goal).bind fun r_4=>
 bif r_4 then
 some 45
 else
 some 0
def fM (p:ay) (s_:State) (t:Task):Option Int:=
 (di p s_).bind fun r_=>
 bif (!decide (r_=0))then
 some r_
 else
 (ni p t).bind fun r_1=>
 bif (!r_1)then
 some 1
 else
 (l9 p s_ t).bind fun r_2=>
 some r_2
def kW (s_:(List Bool)) (s_nn:Bool):Option (List Bool):=
 bif (!s_nn)then
 some ([]:List Bool)
 else
 bn (((([]:List Bool).length+s_.length)*1≤140737488355328)∧(([]:List Bool).length+s_.length≤4611686018427387904)) (
 some (([]:List Bool)++s_))
def au (s:(List Bool)):Option (List Bool):=kW s true
def nR (s_:State):Option State:=
 bn ((0:Int)≤0∧0<(7:Int)) (
 (au s_.closed).bind fun r_=>
 bn ((0:Int)≤1∧1<(7:Int)) (
 (au s_.locked).bind fun r_1=>
 bn ((0:Int)≤2∧2<(7:Int)) (
 (au s_.badLink).bind fun r_2=>
 bn ((0:Int)≤3∧3<(7:Int)) (
 (au s_.on_).bind fun r_3=>
 bn ((0:Int)≤4∧4<(7:Int)) (
 (au s_.badSource).bind fun r_4=>
 bn ((0:Int)≤5∧5<(7:Int)) (
 (au s_.earthed).bind fun r_5=>
 bn ((0:Int)≤6∧6<(7:Int)) (
 (au s_.badBus).bind fun r_6=>
 some (⟨r_,r_1,r_2,r_3,r_4,r_5,r_6⟩:State))))))))
def lX:Option Unit:=
 some ()
def jV (state:State):Option Unit:=
 some ()
def jF (state:State):Option Unit:=
 some ()
def jU (state:State):Option Unit:=
 some ()
def jJ (state:State):Option Unit:=
 some ()
def lF (s_:State) (x:aj):Option State:=
 (lX).bind fun r_=>
 bif (aS x.deed 1)then
 bn ((0:Int)≤0∧0<(7:Int)) (
 (au s_.closed).bind fun r_1=>
 bn ((0:Int)≤1∧1<(7:Int)) (
 (au s_.locked).bind fun r_2=>
 bn ((0:Int)≤2∧2<(7:Int)) (
 (au s_.badLink).bind fun r_3=>
 bn ((0:Int)≤3∧3<(7:Int)) (
 (au s_.on_).bind fun r_4=>
 bn ((0:Int)≤4∧4<(7:Int)) (
 (au s_.badSource).bind fun r_5=>
 bn ((0:Int)≤5∧5<(7:Int)) (
 (au s_.earthed).bind fun r_6=>
 bn ((0:Int)≤6∧6<(7:Int)) (
 (au s_.badBus).bind fun r_7=>
 (jV (⟨r_1,r_2,r_3,r_4,r_5,r_6,r_7⟩:State)).bind fun r_8=>
 bn ((0:Int)≤x.index∧x.index<(r_1.length:Int)) (
 some (⟨(r_1.set x.index.toNat false),r_2,r_3,r_4,r_5,r_6,r_7⟩:State)))))))))
 else
 bif (aS x.deed 2)then
 bn ((0:Int)≤0∧0<(7:Int)) (
 (au s_.closed).bind fun r_9=>
 bn ((0:Int)≤1∧1<(7:Int)) (
 (au s_.locked).bind fun r_10=>
 bn ((0:Int)≤2∧2<(7:Int)) (
 (au s_.badLink).bind fun r_11=>
 bn ((0:Int)≤3∧3<(7:Int)) (
 (au s_.on_).bind fun r_12=>
 bn ((0:Int)≤4∧4<(7:Int)) (
 (au s_.badSource).bind fun r_13=>
 bn ((0:Int)≤5∧5<(7:Int)) (
 (au s_.earthed).bind fun r_14=>
 bn ((0:Int)≤6∧6<(7:Int)) (
 (au s_.badBus).bind fun r_15=>
 (jV (⟨r_9,r_10,r_11,r_12,r_13,r_14,r_15⟩:State)).bind fun r_16=>
 bn ((0:Int)≤x.index∧x.index<(r_9.length:Int)) (
 some (⟨(r_9.set x.index.toNat true),r_10,r_11,r_12,r_13,r_14,r_15⟩:State)))))))))
 else
 bif (aS x.deed 3)then
 bn ((0:Int)≤0∧0<(7:Int)) (
 (au s_.closed).bind fun r_17=>
 bn ((0:Int)≤1∧1<(7:Int)) (
 (au s_.locked).bind fun r_18=>
 bn ((0:Int)≤2∧2<(7:Int)) (
 (au s_.badLink).bind fun r_19=>
 bn ((0:Int)≤3∧3<(7:Int)) (
 (au s_.on_).bind fun r_20=>
 bn ((0:Int)≤4∧4<(7:Int)) (
 (au s_.badSource).bind fun r_21=>
 bn ((0:Int)≤5∧5<(7:Int)) (
 (au s_.earthed).bind fun r_22=>
 bn ((0:Int)≤6∧6<(7:Int)) (
 (au s_.badBus).bind fun r_23=>
 (jF (⟨r_17,r_18,r_19,r_20,r_21,r_22,r_23⟩:State)).bind fun r_24=>
 bn ((0:Int)≤x.index∧x.index<(r_22.length:Int)) (
 some (⟨r_17,r_18,r_19,r_20,r_21,(r_22.set x.index.toNat true),r_23⟩:State)))))))))
 else
 bif (aS x.deed 4)then
 bn ((0:Int)≤0∧0<(7:Int)) (
 (au s_.closed).bind fun r_25=>
 bn ((0:Int)≤1∧1<(7:Int)) (
 (au s_.locked).bind fun r_26=>
 bn ((0:Int)≤2∧2<(7:Int)) (
 (au s_.badLink).bind fun r_27=>
 bn ((0:Int)≤3∧3<(7:Int)) (
 (au s_.on_).bind fun r_28=>
 bn ((0:Int)≤4∧4<(7:Int)) (
 (au s_.badSource).bind fun r_29=>
 bn ((0:Int)≤5∧5<(7:Int)) (
 (au s_.earthed).bind fun r_30=>
 bn ((0:Int)≤6∧6<(7:Int)) (
 (au s_.badBus).bind fun r_31=>
 (jF (⟨r_25,r_26,r_27,r_28,r_29,r_30,r_31⟩:State)).bind fun r_32=>
 bn ((0:Int)≤x.index∧x.index<(r_30.length:Int)) (
 some (⟨r_25,r_26,r_27,r_28,r_29,(r_30.set x.index.toNat false),r_31⟩:State)))))))))
 else
 bif (aS x.deed 5)then
 bn ((0:Int)≤0∧0<(7:Int)) (
 (au s_.closed).bind fun r_33=>
 bn ((0:Int)≤1∧1<(7:Int)) (
 (au s_.locked).bind fun r_34=>
 bn ((0:Int)≤2∧2<(7:Int)) (
 (au s_.badLink).bind fun r_35=>
 bn ((0:Int)≤3∧3<(7:Int)) (
 (au s_.on_).bind fun r_36=>
 bn ((0:Int)≤4∧4<(7:Int)) (
 (au s_.badSource).bind fun r_37=>
 bn ((0:Int)≤5∧5<(7:Int)) (
 (au s_.earthed).bind fun r_38=>
 bn ((0:Int)≤6∧6<(7:Int)) (
 (au s_.badBus).bind fun r_39=>
 (jU (⟨r_33,r_34,r_35,r_36,r_37,r_38,r_39⟩:State)).bind fun r_40=>
 bn ((0:Int)≤x.index∧x.index<(r_34.length:Int)) (
 some (⟨r_33,(r_34.set x.index.toNat true),r_35,r_36,r_37,r_38,r_39⟩:State)))))))))
 else
 bif (aS x.deed 6)then
 bn ((0:Int)≤0∧0<(7:Int)) (
 (au s_.closed).bind fun r_41=>
 bn ((0:Int)≤1∧1<(7:Int)) (
 (au s_.locked).bind fun r_42=>
 bn ((0:Int)≤2∧2<(7:Int)) (
 (au s_.badLink).bind fun r_43=>
 bn ((0:Int)≤3∧3<(7:Int)) (
 (au s_.on_).bind fun r_44=>
 bn ((0:Int)≤4∧4<(7:Int)) (
 (au s_.badSource).bind fun r_45=>
 bn ((0:Int)≤5∧5<(7:Int)) (
 (au s_.earthed).bind fun r_46=>
 bn ((0:Int)≤6∧6<(7:Int)) (
 (au s_.badBus).bind fun r_47=>
 (jU (⟨r_41,r_42,r_43,r_44,r_45,r_46,r_47⟩:State)).bind fun r_48=>
 bn ((0:Int)≤x.index∧x.index<(r_42.length:Int)) (
 some (⟨r_41,(r_42.set x.index.toNat false),r_43,r_44,r_45,r_46,r_47⟩:State)))))))))
 else
 bif (aS x.deed 7)then
 bn ((0:Int)≤0∧0<(7:Int)) (
 (au s_.closed).bind fun r_49=>
 bn ((0:Int)≤1∧1<(7:Int)) (
 (au s_.locked).bind fun r_50=>
 bn ((0:Int)≤2∧2<(7:Int)) (
 (au s_.badLink).bind fun r_51=>
 bn ((0:Int)≤3∧3<(7:Int)) (
 (au s_.on_).bind fun r_52=>
 bn ((0:Int)≤4∧4<(7:Int)) (
 (au s_.badSource).bind fun r_53=>
 bn ((0:Int)≤5∧5<(7:Int)) (
 (au s_.earthed).bind fun r_54=>
 bn ((0:Int)≤6∧6<(7:Int)) (
 (au s_.badBus).bind fun r_55=>
 (jJ (⟨r_49,r_50,r_51,r_52,r_53,r_54,r_55⟩:State)).bind fun r_56=>
 bn ((0:Int)≤x.index∧x.index<(r_52.length:Int)) (
 some (⟨r_49,r_50,r_51,(r_52.set x.index.toNat true),r_53,r_54,r_55⟩:State)))))))))
 else
 bif (aS x.deed 8)then
 bn ((0:Int)≤0∧0<(7:Int)) (
 (au s_.closed).bind fun r_57=>
 bn ((0:Int)≤1∧1<(7:Int)) (
 (au s_.locked).bind fun r_58=>
 bn ((0:Int)≤2∧2<(7:Int)) (
 (au s_.badLink).bind fun r_59=>
 bn ((0:Int)≤3∧3<(7:Int)) (
 (au s_.on_).bind fun r_60=>
 bn ((0:Int)≤4∧4<(7:Int)) (
 (au s_.badSource).bind fun r_61=>
 bn ((0:Int)≤5∧5<(7:Int)) (
 (au s_.earthed).bind fun r_62=>
 bn ((0:Int)≤6∧6<(7:Int)) (
 (au s_.badBus).bind fun r_63=>
 (jJ (⟨r_57,r_58,r_59,r_60,r_61,r_62,r_63⟩:State)).bind fun r_64=>
 bn ((0:Int)≤x.index∧x.index<(r_60.length:Int)) (
 some (⟨r_57,r_58,r_59,(r_60.set x.index.toNat false),r_61,r_62,r_63⟩:State)))))))))
 else
 bn ((0:Int)≤0∧0<(7:Int)) (
 (au s_.closed).bind fun r_65=>
 bn ((0:Int)≤1∧1<(7:Int)) (
 (au s_.locked).bind fun r_66=>
 bn ((0:Int)≤2∧2<(7:Int)) (
 (au s_.badLink).bind fun r_67=>
 bn ((0:Int)≤3∧3<(7:Int)) (
 (au s_.on_).bind fun r_68=>
 bn ((0:Int)≤4∧4<(7:Int)) (
 (au s_.badSource).bind fun r_69=>
 bn ((0:Int)≤5∧5<(7:Int)) (
 (au s_.earthed).bind fun r_70=>
 bn ((0:Int)≤6∧6<(7:Int)) (
 (au s_.badBus).bind fun r_71=>
 none)))))))
def pO:Option Unit:=
 some ()
def nX (p:ay) (s_:State) (x:aj):Option Bool:=
 (kR p x).bind fun r_=>
 some (!r_)
def mo (s_:(List Bool)) (s_1:(List Bool)) (s_2:(List Bool)) (s_3:(List Bool)) (s_4:(List Bool)) (s_5:(List Bool)) (s_6:(List Bool)):Option ((List Bool) × (List Bool) × (List Bool) × (List Bool) × (List Bool) × (List Bool) × (List Bool)):=
 some (s_,s_1,s_2,s_3,s_4,s_5,s_6)
def mr (s_:(List Bool)) (s_1:(List Bool)) (s_2:(List Bool)) (s_3:(List Bool)) (s_4:(List Bool)) (s_5:(List Bool)) (s_6:(List Bool)):Option ((List Bool) × (List Bool) × (List Bool) × (List Bool) × (List Bool) × (List Bool) × (List Bool)):=
 some (s_,s_1,s_2,s_3,s_4,s_5,s_6)
def mh (s_:(List Bool)) (s_1:(List Bool)) (s_2:(List Bool)) (s_3:(List Bool)) (s_4:(List Bool)) (s_5:(List Bool)) (s_6:(List Bool)):Option ((List Bool) × (List Bool) × (List Bool) × (List Bool) × (List Bool) × (List Bool) × (List Bool)):=
 some (s_,s_1,s_2,s_3,s_4,s_5,s_6)
def mg (s_:(List Bool)) (s_1:(List Bool)) (s_2:(List Bool)) (s_3:(List Bool)) (s_4:(List Bool)) (s_5:(List Bool)) (s_6:(List Bool)):Option ((List Bool) × (List Bool) × (List Bool) × (List Bool) × (List Bool) × (List Bool) × (List Bool)):=
 some (s_,s_1,s_2,s_3,s_4,s_5,s_6)
def oU (s_:State) (x:aj):Option Bool:=
 (lX).bind fun r_=>
 bif (aS x.deed 1)then
 (mo s_.closed s_.locked s_.badLink s_.on_ s_.badSource s_.earthed s_.badBus).bind fun r_1=>
 bn ((0:Int)≤x.index∧x.index<(r_1.1.length:Int)) (
 some ((at' r_1.1 x.index.toNat)==false))
 else
 bif (aS x.deed 2)then
 (mo s_.closed s_.locked s_.badLink s_.on_ s_.badSource s_.earthed s_.badBus).bind fun r_2=>
 bn ((0:Int)≤x.index∧x.index<(r_2.1.length:Int)) (
 some ((at' r_2.1 x.index.toNat)==true))
 else
 bif (aS x.deed 3)then
 (mr s_.closed s_.locked s_.badLink s_.on_ s_.badSource s_.earthed s_.badBus).bind fun r_3=>
 bn ((0:Int)≤x.index∧x.index<(r_3.2.2.2.2.2.1.length:Int)) (
 some ((at' r_3.2.2.2.2.2.1 x.index.toNat)==true))
 else
 bif (aS x.deed 4)then
 (mr s_.closed s_.locked s_.badLink s_.on_ s_.badSource s_.earthed s_.badBus).bind fun r_4=>
 bn ((0:Int)≤x.index∧x.index<(r_4.2.2.2.2.2.1.length:Int)) (
 some ((at' r_4.2.2.2.2.2.1 x.index.toNat)==false))
 else
 bif (aS x.deed 5)then
 (mh s_.closed s_.locked s_.badLink s_.on_ s_.badSource s_.earthed s_.badBus).bind fun r_5=>
 bn ((0:Int)≤x.index∧x.index<(r_5.2.1.length:Int)) (
 some ((at' r_5.2.1 x.index.toNat)==true))
 else
 bif (aS x.deed 6)then
 (mh s_.closed s_.locked s_.badLink s_.on_ s_.badSource s_.earthed s_.badBus).bind fun r_6=>
 bn ((0:Int)≤x.index∧x.index<(r_6.2.1.length:Int)) (
 some ((at' r_6.2.1 x.index.toNat)==false))
 else
 bif (aS x.deed 7)then
 (mg s_.closed s_.locked s_.badLink s_.on_ s_.badSource s_.earthed s_.badBus).bind fun r_7=>
 bn ((0:Int)≤x.index∧x.index<(r_7.2.2.2.1.length:Int)) (
 some ((at' r_7.2.2.2.1 x.index.toNat)==true))
 else
 bif (aS x.deed 8)then
 (mg s_.closed s_.locked s_.badLink s_.on_ s_.badSource s_.earthed s_.badBus).bind fun r_8=>
 bn ((0:Int)≤x.index∧x.index<(r_8.2.2.2.1.length:Int)) (
 some ((at' r_8.2.2.2.1 x.index.toNat)==false))
 else
 none
def nL (p:ay) (s_:State) (x:aj):Option Bool:=
 (oU s_ x).bind fun r_=>
 some r_
def fH (x:aj):Option Bool:=
 some (bif (decide (x.deed=1))then true else(decide (x.deed=2)))
def wK (x:aj):Option Bool:=
 some (bif (decide (x.deed=7))then true else(decide (x.deed=8)))
def kM (p:ay) (s_:State) (x:aj):Option Bool:=
 (fH x).bind fun r_=>
 (bif gB [((bif r_ then(at' s_.badLink x.index.toNat)else false),false)]then wK x else some default).bind fun r_1=>
 bn ((gB [(r_,true)]=true→(0:Int)≤x.index∧x.index<(s_.badLink.length:Int))∧(gB [(r_1,true),((bif r_ then(at' s_.badLink x.index.toNat)else false),false)]=true→(0:Int)≤x.index∧x.index<(s_.badSource.length:Int))) (
 some (bif (bif r_ then(at' s_.badLink x.index.toNat)else false)then true else(bif r_1 then(at' s_.badSource x.index.toNat)else false)))
def kF (p:ay) (s_:State) (x:aj):Option Bool:=
 (fH x).bind fun r_=>
 bn (gB [(r_,true)]=true→(0:Int)≤x.index∧x.index<(s_.locked.length:Int)) (
 some (bif r_ then(at' s_.locked x.index.toNat)else false))
def j5 (p:ay) (s_:State):Option ((List aH) × Int):=
 (di p s_).bind fun r_=>
 bif (!decide (r_=0))then
 some (([]:List aH),r_)
 else
 (fq p s_).bind fun r_1=>
 some (r_1,0)
def oG (x:aH) (x1:Int):Option Bool:=
 (iJ x.buses x1).bind fun r_=>
 some r_
def fK (s_:(List aH)) (f_:Int):Int→Option (dG Int (Ex Unit Int)):=
 fun t8=>
 bif (decide (t8<(s_.length:Int)))then
 (oG (at' s_ t8.toNat) f_).bind fun r_=>
 bn ((0:Int)≤t8∧t8<(s_.length:Int)) (
 bif r_ then
 some (.done (.ret t8))
 else
 some (.next (IntKind.wrap .i64 (t8+1))))
 else
 some (.done (.brk ()))
def dV (s_:(List aH)) (f_:Int):Option Int:=
 Option.bind (aW (fK s_ f_) FUEL (0)) fun o=>match o with
 | .ret v=>some v
 | .brk _=>
 some (-1)
def gZ (b:Int) (x1:(List aH)):Option Int:=
 (dV x1 b).bind fun r_=>
 some r_
def qE (p:ay) (s_:State) (i:Int):Option Bool:=
 bn ((0:Int)≤i∧i<(s_.closed.length:Int)) (
 bif (at' s_.closed i.toNat)then
 (lF s_ (⟨1,i⟩:aj)).bind fun r_=>
 (j5 p r_).bind fun r_1=>
 (gZ ((at' p.links i.toNat).a) r_1.1).bind fun r_2=>
 (gZ ((at' p.links i.toNat).b) r_1.1).bind fun r_3=>
 bn ((0:Int)≤i∧i<(p.links.length:Int)) (
 bn ((gB [((bif (bif (decide (0≤r_2))then(decide (0≤r_3))else false)then(!decide (r_2=r_3))else false),true)]=true→(0:Int)≤r_2∧r_2<(r_1.1.length:Int))∧(gB [((bif (bif (decide (0≤r_2))then(decide (0≤r_3))else false)then(!decide (r_2=r_3))else false),true)]=true→(0:Int)≤r_3∧r_3<(r_1.1.length:Int))) (
 some (bif (bif (bif (decide (0≤r_2))then(decide (0≤r_3))else false)then(!decide (r_2=r_3))else false)then(decide (0<(IntKind.wrap .i64 ((((at' r_1.1 r_2.toNat).sources).length:Int)+(((at' r_1.1 r_3.toNat).sources).length:Int)))))else false)))
 else
 (j5 p s_).bind fun r_4=>
 (gZ ((at' p.links i.toNat).a) r_4.1).bind fun r_5=>
 (gZ ((at' p.links i.toNat).b) r_4.1).bind fun r_6=>
 bn ((0:Int)≤i∧i<(p.links.length:Int)) (
 bn ((gB [((bif (bif (decide (0≤r_5))then(decide (0≤r_6))else false)then(!decide (r_5=r_6))else false),true)]=true→(0:Int)≤r_5∧r_5<(r_4.1.length:Int))∧(gB [((bif (bif (decide (0≤r_5))then(decide (0≤r_6))else false)then(!decide (r_5=r_6))else false),true)]=true→(0:Int)≤r_6∧r_6<(r_4.1.length:Int))) (
 some (bif (bif (bif (decide (0≤r_5))then(decide (0≤r_6))else false)then(!decide (r_5=r_6))else false)then(decide (0<(IntKind.wrap .i64 ((((at' r_4.1 r_5.toNat).sources).length:Int)+(((at' r_4.1 r_6.toNat).sources).length:Int)))))else false))))
def kG (p:ay) (s_:State) (x:aj):Option Bool:=
 (fH x).bind fun r_=>
 (bif gB [((bif r_ then(decide (((at' p.links x.index.toNat).kind)=2))else false),true)]then qE p s_ x.index else some default).bind fun r_1=>
 bn (gB [(r_,true)]=true→(0:Int)≤x.index∧x.index<(p.links.length:Int)) (
 some (bif (bif r_ then(decide (((at' p.links x.index.toNat).kind)=2))else false)then r_1 else false))
def rC (p:ay) (s_:State) (x:aj):Option (State × Int):=
 (pO).bind fun r_=>
 (nX p s_ x).bind fun r_1=>
 bif r_1 then
 some ((⟨([]:List Bool),([]:List Bool),([]:List Bool),([]:List Bool),([]:List Bool),([]:List Bool),([]:List Bool)⟩:State),1)
 else
 (nL p s_ x).bind fun r_2=>
 bif r_2 then
 some ((⟨([]:List Bool),([]:List Bool),([]:List Bool),([]:List Bool),([]:List Bool),([]:List Bool),([]:List Bool)⟩:State),46)
 else
 (kM p s_ x).bind fun r_3=>
 bif r_3 then
 some ((⟨([]:List Bool),([]:List Bool),([]:List Bool),([]:List Bool),([]:List Bool),([]:List Bool),([]:List Bool)⟩:State),47)
 else
 (kF p s_ x).bind fun r_4=>
 bif r_4 then
 some ((⟨([]:List Bool),([]:List Bool),([]:List Bool),([]:List Bool),([]:List Bool),([]:List Bool),([]:List Bool)⟩:State),43)
 else
 (kG p s_ x).bind fun r_5=>
 bif r_5 then
 some ((⟨([]:List Bool),([]:List Bool),([]:List Bool),([]:List Bool),([]:List Bool),([]:List Bool),([]:List Bool)⟩:State),44)
 else
 (lF s_ x).bind fun r_6=>
 some (r_6,0)
def qB (p:ay) (s_:State) (t:Task) (x:aj):Option (State × Int):=
 (rC p s_ x).bind fun r_=>
 bif (decide (r_.2=0))then
 (l9 p r_.1 t).bind fun r_1=>
 some (r_.1,r_1)
 else
 some (r_.1,r_.2)
def iK (p:ay) (t:Task) (l:(List aj)):((List Bool) × (List Bool) × (List Bool) × (List Bool) × (List Bool) × (List Bool) × (List Bool) × Int)→Option (dG ((List Bool) × (List Bool) × (List Bool) × (List Bool) × (List Bool) × (List Bool) × (List Bool) × Int) (Ex ((List Bool) × (List Bool) × (List Bool) × (List Bool) × (List Bool) × (List Bool) × (List Bool)) (Int × State × Int))):=
 fun zz=>match zz with
 |(s0,s1,s2,s3,s4,s5,s6,t31)=>
 bif (decide (t31<(l.length:Int)))then
 bn ((0:Int)≤t31∧t31<(l.length:Int)) (
 (qB p (⟨s0,s1,s2,s3,s4,s5,s6⟩:State) t (at' l t31.toNat)).bind fun r_2=>
 bif (!decide (r_2.2=0))then
 some (.done (.ret (t31,(⟨([]:List Bool),([]:List Bool),([]:List Bool),([]:List Bool),([]:List Bool),([]:List Bool),([]:List Bool)⟩:State),r_2.2)))
 else
 some (.next (r_2.1.closed,r_2.1.locked,r_2.1.badLink,r_2.1.on_,r_2.1.badSource,r_2.1.earthed,r_2.1.badBus,(IntKind.wrap .i64 (t31+1)))))
 else
 some (.done (.brk (s0,s1,s2,s3,s4,s5,s6)))
def nM (p:ay) (s_:State) (t:Task) (l:(List aj)):Option (Int × State × Int):=
 (fM p s_ t).bind fun r_=>
 bif (!decide (r_=0))then
 some (0,(⟨([]:List Bool),([]:List Bool),([]:List Bool),([]:List Bool),([]:List Bool),([]:List Bool),([]:List Bool)⟩:State),r_)
 else
 bif (decide (256<(l.length:Int)))then
 some (0,(⟨([]:List Bool),([]:List Bool),([]:List Bool),([]:List Bool),([]:List Bool),([]:List Bool),([]:List Bool)⟩:State),2)
 else
 (nR s_).bind fun r_1=>
 Option.bind (aW (iK p t l) FUEL (r_1.closed,r_1.locked,r_1.badLink,r_1.on_,r_1.badSource,r_1.earthed,r_1.badBus,0)) fun o=>match o with
 | .ret v=>some v
 | .brk (s01,s11,s21,s31,s41,s51,s61)=>
 some ((l.length:Int),(⟨s01,s11,s21,s31,s41,s51,s61⟩:State),0)
def nT (s_:(List Int)) (s_nn:Bool):Option (List Int):=
 bif (!s_nn)then
 some ([]:List Int)
 else
 bn (((([]:List Int).length+s_.length)*8≤140737488355328)∧(([]:List Int).length+s_.length≤4611686018427387904)) (
 some (([]:List Int)++s_))
def gJ (s:(List Int)):Option (List Int):=nT s true
def nJ (s_:(List Source)) (s_nn:Bool):Option (List Source):=
 bif (!s_nn)then
 some ([]:List Source)
 else
 bn (((([]:List Source).length+s_.length)*40≤140737488355328)∧(([]:List Source).length+s_.length≤4611686018427387904)) (
 some (([]:List Source)++s_))
def ji (s:(List Source)):Option (List Source):=nJ s true
def nH (s_:(List Link)) (s_nn:Bool):Option (List Link):=
 bif (!s_nn)then
 some ([]:List Link)
 else
 bn (((([]:List Link).length+s_.length)*64≤140737488355328)∧(([]:List Link).length+s_.length≤4611686018427387904)) (
 some (([]:List Link)++s_))
def jr (s:(List Link)):Option (List Link):=nH s true
def ol (s_:(List aL)) (s_nn:Bool):Option (List aL):=
 bif (!s_nn)then
 some ([]:List aL)
 else
 bn (((([]:List aL).length+s_.length)*32≤140737488355328)∧(([]:List aL).length+s_.length≤4611686018427387904)) (
 some (([]:List aL)++s_))
def jo (s:(List aL)):Option (List aL):=ol s true
def oh (s_:(List dU)) (s_nn:Bool):Option (List dU):=
 bif (!s_nn)then
 some ([]:List dU)
 else
 bn (((([]:List dU).length+s_.length)*16≤140737488355328)∧(([]:List dU).length+s_.length≤4611686018427387904)) (
 some (([]:List dU)++s_))
def jl (s:(List dU)):Option (List dU):=oh s true
def fE (r_1:(List Link)):((List Link) × Int)→Option (dG ((List Link) × Int) (Ex (List Link) ay)):=
 fun zz=>match zz with
 |(p2,t19)=>
 bif (decide (t19<(r_1.length:Int)))then
 (jl ((at' p2 t19.toNat).trip)).bind fun r_3=>
 bn ((0:Int)≤t19∧t19<(p2.length:Int)) (
 some (.next ((p2.set t19.toNat (⟨(at' p2 t19.toNat).a,(at' p2 t19.toNat).b,(at' p2 t19.toNat).kind,(at' p2 t19.toNat).most,(at' p2 t19.toNat).ohm,r_3⟩:Link)),(IntKind.wrap .i64 (t19+1)))))
 else
 some (.done (.brk p2))
def jI (p:ay):Option ay:=
 (ji p.sources).bind fun r_=>
 (jr p.links).bind fun r_1=>
 (jo p.racks).bind fun r_2=>
 Option.bind (aW (fE r_1) FUEL (r_1,0)) fun o=>match o with
 | .ret v=>some v
 | .brk p21=>
 some (⟨p.buses,r_,p21,r_2⟩:ay)
def dM (s_:State):Option State:=
 bn ((0:Int)≤0∧0<(7:Int)) (
 (au s_.closed).bind fun r_=>
 bn ((0:Int)≤1∧1<(7:Int)) (
 (au s_.locked).bind fun r_1=>
 bn ((0:Int)≤2∧2<(7:Int)) (
 (au s_.badLink).bind fun r_2=>
 bn ((0:Int)≤3∧3<(7:Int)) (
 (au s_.on_).bind fun r_3=>
 bn ((0:Int)≤4∧4<(7:Int)) (
 (au s_.badSource).bind fun r_4=>
 bn ((0:Int)≤5∧5<(7:Int)) (
 (au s_.earthed).bind fun r_5=>
 bn ((0:Int)≤6∧6<(7:Int)) (
 (au s_.badBus).bind fun r_6=>
 some (⟨r_,r_1,r_2,r_3,r_4,r_5,r_6⟩:State))))))))
def nP (s_:(List Item)) (s_nn:Bool):Option (List Item):=
 bif (!s_nn)then
 some ([]:List Item)
 else
 bn (((([]:List Item).length+s_.length)*24≤140737488355328)∧(([]:List Item).length+s_.length≤4611686018427387904)) (
 some (([]:List Item)++s_))
def jm (s:(List Item)):Option (List Item):=nP s true
def eT (p:ay) (s_:State) (x:aj):Option (State × Int):=
 (di p s_).bind fun r_=>
 bif (!decide (r_=0))then
 some ((⟨([]:List Bool),([]:List Bool),([]:List Bool),([]:List Bool),([]:List Bool),([]:List Bool),([]:List Bool)⟩:State),r_)
 else
 (rC p s_ x).bind fun r_1=>
 some (r_1.1,r_1.2)
def xu (x:aj):Option aj:=
 bif (bif (decide (1≤x.deed))then(decide (x.deed≤8))else false)then
 some (⟨(IntKind.wrap .i64 ((IntKind.wrap .i64 (((BitVec.ofInt (IntKind.bits .i64) (IntKind.wrap .i64 (x.deed - 1)) ^^^ BitVec.ofInt (IntKind.bits .i64) 1).toNat:Int)))+1)),x.index⟩:aj)
 else
 some x
def iI:Option (ay × State × (List Item)):=
 bn (((0:Int)≤2)∧((1:Int)*2≤281474976710656)∧((2:Int)≤9223372036854775807)∧((0:Int)≤1)∧((1:Int)*1≤281474976710656)∧((1:Int)≤9223372036854775807)∧((0:Int)≤3)∧((1:Int)*3≤281474976710656)∧((3:Int)≤9223372036854775807)) (
 some ((⟨3,[(⟨0,1,500,0,20⟩:Source)],[(⟨0,1,3,400,10,([]:List dU)⟩:Link),(⟨1,2,2,400,10,([]:List dU)⟩:Link)],[(⟨(⟨2,(-1)⟩:aO),100,1⟩:aL)]⟩:ay),(⟨[true,true],(List.replicate 2 (false:Bool)),(List.replicate 2 (false:Bool)),[true],(List.replicate 1 (false:Bool)),(List.replicate 3 (false:Bool)),(List.replicate 3 (false:Bool))⟩:State),[(⟨(⟨1,0⟩:aj),true⟩:Item),(⟨(⟨1,1⟩:aj),false⟩:Item)]))
def fI (l:(List Item)):((List aj) × Int)→Option (dG ((List aj) × Int) (Ex (List aj) (Bool × Int × Int × Run))):=
 fun zz=>match zz with
 |(program,t22)=>
 bif (decide (t22<(l.length:Int)))then
 bn ((0:Int)≤t22∧t22<(l.length:Int)) (
 bn (((program.length+[((at' l t22.toNat).step)].length)*16≤140737488355328)∧(program.length+[((at' l t22.toNat).step)].length≤4611686018427387904)) (
 some (.next ((program++[((at' l t22.toNat).step)]),(IntKind.wrap .i64 (t22+1))))))
 else
 some (.done (.brk program))
def bH (p:ay) (s_:State) (t:Task) (l:(List Item)):Option (Bool × Int × Int × Run):=
 bif (decide (64<(l.length:Int)))then
 some (false,0,2,(default:Run))
 else
 Option.bind (aW (fI l) FUEL (([]:List aj),0)) fun o=>match o with
 | .ret v=>some v
 | .brk program1=>
 (nM p s_ t program1).bind fun r_=>
 bif (!decide (r_.2.2=0))then
 some (false,r_.1,r_.2.2,(default:Run))
 else
 (gJ t.fed).bind fun r_1=>
 (gJ t.crew).bind fun r_2=>
 (jI p).bind fun r_3=>
 (dM s_).bind fun r_4=>
 (jm l).bind fun r_5=>
 (dM s_).bind fun r_6=>
 some (true,r_.1,0,(⟨(⟨r_3,r_4,(⟨r_1,r_2,([]:List aj),([]:List aj)⟩:Task),r_5⟩:Setting),r_6,0,false,false,([]:List ai)⟩:Run))
def fw (run:Run):Option Bool:=
 some false
def dB (run:Run):Option Int:=
 (fw run).bind fun r_=>
 bif r_ then
 some 5
 else
 bif (decide (1000≤(run.log.length:Int)))then
 some 2
 else
 some 0
def iR (errno:Int) (state:State) (run:Run):Option Run:=
 bif (decide (errno=0))then
 some (⟨run.setting,state,run.done,run.wait,run.back,run.log⟩:Run)
 else
 some run
def fo (x:aj) (run:Run):Option (Int × Run):=
 Option.bind (α:=(Int × (List Bool) × (List Bool) × (List Bool) × (List Bool) × (List Bool) × (List Bool) × (List Bool))) (
 (eT run.setting.plant run.now x).bind fun r_=>
 some (r_.2,r_.1.closed,r_.1.locked,r_.1.badLink,r_.1.on_,r_.1.badSource,r_.1.earthed,r_.1.badBus)) fun z_=>
 Option.bind (α:=Int) (
 bif (decide (z_.1=0))then
 (fM run.setting.plant (⟨z_.2.1,z_.2.2.1,z_.2.2.2.1,z_.2.2.2.2.1,z_.2.2.2.2.2.1,z_.2.2.2.2.2.2.1,z_.2.2.2.2.2.2.2⟩:State) run.setting.task).bind fun r_1=>
 some r_1
 else
 some z_.1) fun w_=>
 Option.bind (iR w_ (⟨z_.2.1,z_.2.2.1,z_.2.2.2.1,z_.2.2.2.2.1,z_.2.2.2.2.2.1,z_.2.2.2.2.2.2.1,z_.2.2.2.2.2.2.2⟩:State) run) fun r_2=>
 some (w_,(⟨r_2.setting,r_2.now,r_2.done,r_2.wait,r_2.back,run.log⟩:Run))
def aX (run:Run):Option (Int × Run):=
 (dB run).bind fun r_=>
 bif (!decide (r_=0))then
 some (r_,run)
 else
 bif run.back then
 some (9,run)
 else
 bif run.wait then
 some (130,run)
 else
 bif (decide (run.done=(run.setting.items.length:Int)))then
 some (4,run)
 else
 bn ((0:Int)≤run.done∧run.done<(run.setting.items.length:Int)) (
 (fo ((at' run.setting.items run.done.toNat).step) run).bind fun r_1=>
 bif (!decide (r_1.1=0))then
 some (r_1.1,(⟨r_1.2.setting,r_1.2.now,r_1.2.done,r_1.2.wait,r_1.2.back,run.log⟩:Run))
 else
 bn (((run.log.length+[(⟨1,((at' run.setting.items run.done.toNat).step),(⟨0,0⟩:Part),0⟩:ai)].length)*48≤140737488355328)∧(run.log.length+[(⟨1,((at' run.setting.items run.done.toNat).step),(⟨0,0⟩:Part),0⟩:ai)].length≤4611686018427387904)) (
 some (0,(⟨r_1.2.setting,r_1.2.now,(IntKind.wrap .i64 (r_1.2.done+1)),(at' run.setting.items run.done.toNat).ack,r_1.2.back,(run.log++[(⟨1,((at' run.setting.items run.done.toNat).step),(⟨0,0⟩:Part),0⟩:ai)])⟩:Run))))
def dw (who:Int) (run:Run):Option (Int × Run):=
 (dB run).bind fun r_=>
 bif (!decide (r_=0))then
 some (r_,run)
 else
 bif (!run.wait)then
 some (9,run)
 else
 bif (bif (decide (who<1))then true else(decide (1000<who)))then
 some (1,run)
 else
 bn (((run.log.length+[(⟨2,(⟨0,0⟩:aj),(⟨0,0⟩:Part),who⟩:ai)].length)*48≤140737488355328)∧(run.log.length+[(⟨2,(⟨0,0⟩:aj),(⟨0,0⟩:Part),who⟩:ai)].length≤4611686018427387904)) (
 some (0,(⟨run.setting,run.now,run.done,false,run.back,(run.log++[(⟨2,(⟨0,0⟩:aj),(⟨0,0⟩:Part),who⟩:ai)])⟩:Run)))
def tX (run:Run):Option Unit:=
 some ()
def sZ (x18:Int) (r_:((List aB) × Int)):((List (Int × Int)) × Int)→Option (dG ((List (Int × Int)) × Int) (Ex (List (Int × Int)) ((List (Int × Int)) × (List aB) × (List aB)))):=
 fun zz=>match zz with
 |(o0,t37)=>
 bif (decide (t37<(r_.1.length:Int)))then
 bn ((0:Int)≤t37∧t37<(r_.1.length:Int)) (
 bif (bif (at' r_.1 t37.toNat).e0 then true else(at' r_.1 t37.toNat).e1)then
 some (.next ((fe aS t37 x18 o0),(IntKind.wrap .i64 (t37+1))))
 else
 some (.next (o0,(IntKind.wrap .i64 (t37+1)))))
 else
 some (.done (.brk o0))
def sS (x18:Int) (r_:((List aB) × Int)):((List (Int × Int)) × Int)→Option (dG ((List (Int × Int)) × Int) (Ex (List (Int × Int)) ((List (Int × Int)) × (List aB) × (List aB)))):=
 fun zz=>match zz with
 |(o02,t371)=>
 bif (decide (t371<(r_.1.length:Int)))then
 bn ((0:Int)≤t371∧t371<(r_.1.length:Int)) (
 bif (bif (at' r_.1 t371.toNat).e0 then true else(at' r_.1 t371.toNat).e1)then
 some (.next ((fe aS t371 x18 o02),(IntKind.wrap .i64 (t371+1))))
 else
 some (.next (o02,(IntKind.wrap .i64 (t371+1)))))
 else
 some (.done (.brk o02))
def jL (x18:Int) (x19:(List Bool)) (x191:(List Bool)) (x192:(List Bool)) (x193:(List Bool)) (x194:(List Bool)) (x195:(List Bool)) (x196:(List Bool)) (o_:(List (Int × Int))) (o_1:(List aB)) (o_2:(List aB)) (run:Run):Option ((List (Int × Int)) × (List aB) × (List aB)):=
 (oW run.setting.plant (⟨x19,x191,x192,x193,x194,x195,x196⟩:State)).bind fun r_=>
 bif (decide (x18=0))then
 Option.bind (aW (sZ x18 r_) FUEL (o_,0)) fun o=>match o with
 | .ret v=>some v
 | .brk o01=>
 some (o01,r_.1,r_.1)
 else
 Option.bind (aW (sS x18 r_) FUEL (o_,0)) fun o=>match o with
 | .ret v=>some v
 | .brk o03=>
 some (o03,o_1,r_.1)
def nZ (s_:State):Option State:=
 bn ((0:Int)≤0∧0<(7:Int)) (
 (au s_.closed).bind fun r_=>
 bn ((0:Int)≤1∧1<(7:Int)) (
 (au s_.locked).bind fun r_1=>
 bn ((0:Int)≤2∧2<(7:Int)) (
 (au s_.badLink).bind fun r_2=>
 bn ((0:Int)≤3∧3<(7:Int)) (
 (au s_.on_).bind fun r_3=>
 bn ((0:Int)≤4∧4<(7:Int)) (
 (au s_.badSource).bind fun r_4=>
 bn ((0:Int)≤5∧5<(7:Int)) (
 (au s_.earthed).bind fun r_5=>
 bn ((0:Int)≤6∧6<(7:Int)) (
 (au s_.badBus).bind fun r_6=>
 some (⟨r_,r_1,r_2,r_3,r_4,r_5,r_6⟩:State))))))))
def ic (p:ay) (s_:State) (x:Part) (is:Bool):Option (State × Int):=
 (di p s_).bind fun r_=>
 bif (!decide (r_=0))then
 some ((⟨([]:List Bool),([]:List Bool),([]:List Bool),([]:List Bool),([]:List Bool),([]:List Bool),([]:List Bool)⟩:State),r_)
 else
 (nZ s_).bind fun r_1=>
 bif (aS x.kind 1)then
 (aV x.index 0 (IntKind.wrap .i64 ((r_1.badBus.length:Int) - 1))).bind fun r_2=>
 bif (!r_2)then
 some ((⟨([]:List Bool),([]:List Bool),([]:List Bool),([]:List Bool),([]:List Bool),([]:List Bool),([]:List Bool)⟩:State),14)
 else
 bn ((0:Int)≤x.index∧x.index<(r_1.badBus.length:Int)) (
 some ((⟨r_1.closed,r_1.locked,r_1.badLink,r_1.on_,r_1.badSource,r_1.earthed,(r_1.badBus.set x.index.toNat is)⟩:State),0))
 else
 bif (aS x.kind 2)then
 (aV x.index 0 (IntKind.wrap .i64 ((r_1.badSource.length:Int) - 1))).bind fun r_3=>
 bif (!r_3)then
 some ((⟨([]:List Bool),([]:List Bool),([]:List Bool),([]:List Bool),([]:List Bool),([]:List Bool),([]:List Bool)⟩:State),14)
 else
 bn ((0:Int)≤x.index∧x.index<(r_1.badSource.length:Int)) (
 some ((⟨r_1.closed,r_1.locked,r_1.badLink,r_1.on_,(r_1.badSource.set x.index.toNat is),r_1.earthed,r_1.badBus⟩:State),0))
 else
 bif (aS x.kind 3)then
 (aV x.index 0 (IntKind.wrap .i64 ((r_1.badLink.length:Int) - 1))).bind fun r_4=>
 bif (!r_4)then
 some ((⟨([]:List Bool),([]:List Bool),([]:List Bool),([]:List Bool),([]:List Bool),([]:List Bool),([]:List Bool)⟩:State),14)
 else
 bn ((0:Int)≤x.index∧x.index<(r_1.badLink.length:Int)) (
 some ((⟨r_1.closed,r_1.locked,(r_1.badLink.set x.index.toNat is),r_1.on_,r_1.badSource,r_1.earthed,r_1.badBus⟩:State),0))
 else
 (aV x.index 0 (-1)).bind fun r_5=>
 bif (!r_5)then
 some ((⟨([]:List Bool),([]:List Bool),([]:List Bool),([]:List Bool),([]:List Bool),([]:List Bool),([]:List Bool)⟩:State),14)
 else
 none
def dF (p:ay) (s_:State) (x:Part):Option (State × Int):=
 (ic p s_ x true).bind fun r_=>
 some (r_.1,r_.2)
def lM (p:ay) (s_:State) (x:Part):Option (State × Int):=
 (ic p s_ x false).bind fun r_=>
 some (r_.1,r_.2)
def wU (run:Run):((List (Int × Int)) × (List aB) × (List aB) × (List Bool) × (List Bool) × (List Bool) × (List Bool) × (List Bool) × (List Bool) × (List Bool) × Int)→Option (dG ((List (Int × Int)) × (List aB) × (List aB) × (List Bool) × (List Bool) × (List Bool) × (List Bool) × (List Bool) × (List Bool) × (List Bool) × Int) (Ex ((List (Int × Int)) × (List aB) × (List aB) × (List Bool) × (List Bool) × (List Bool) × (List Bool) × (List Bool) × (List Bool) × (List Bool)) ((List (Int × Int)) × (List aB) × (List aB)))):=
 fun zz=>match zz with
 |(o0,o01,o02,s0,s1,s2,s3,s4,s5,s6,t19)=>
 bif (decide (t19<(run.log.length:Int)))then
 Option.bind (α:=(Ex ((List (Int × Int)) × (List aB) × (List aB) × (List Bool) × (List Bool) × (List Bool) × (List Bool) × (List Bool) × (List Bool) × (List Bool)) (dG ((List (Int × Int)) × (List aB) × (List aB) × (List Bool) × (List Bool) × (List Bool) × (List Bool) × (List Bool) × (List Bool) × (List Bool) × Int) (Ex ((List (Int × Int)) × (List aB) × (List aB) × (List Bool) × (List Bool) × (List Bool) × (List Bool) × (List Bool) × (List Bool) × (List Bool)) ((List (Int × Int)) × (List aB) × (List aB)))))) (
 bn ((0:Int)≤t19∧t19<(run.log.length:Int)) (
 (jL t19 s0 s1 s2 s3 s4 s5 s6 o0 o01 o02 run).bind fun r_1=>
 bif (decide (((at' run.log t19.toNat).kind)=1))then
 bif (decide (((at' run.log t19.toNat).kind)=1))then
 (eT run.setting.plant (⟨s0,s1,s2,s3,s4,s5,s6⟩:State) ((at' run.log t19.toNat).step)).bind fun r_2=>
 some (.brk (r_1.1,r_1.2.1,r_1.2.2,r_2.1.closed,r_2.1.locked,r_2.1.badLink,r_2.1.on_,r_2.1.badSource,r_2.1.earthed,r_2.1.badBus))
 else
 bif (decide (((at' run.log t19.toNat).kind)=4))then
 (dF run.setting.plant (⟨s0,s1,s2,s3,s4,s5,s6⟩:State) ((at' run.log t19.toNat).part)).bind fun r_3=>
 some (.brk (r_1.1,r_1.2.1,r_1.2.2,r_3.1.closed,r_3.1.locked,r_3.1.badLink,r_3.1.on_,r_3.1.badSource,r_3.1.earthed,r_3.1.badBus))
 else
 bif (decide (((at' run.log t19.toNat).kind)=5))then
 (lM run.setting.plant (⟨s0,s1,s2,s3,s4,s5,s6⟩:State) ((at' run.log t19.toNat).part)).bind fun r_4=>
 some (.brk (r_1.1,r_1.2.1,r_1.2.2,r_4.1.closed,r_4.1.locked,r_4.1.badLink,r_4.1.on_,r_4.1.badSource,r_4.1.earthed,r_4.1.badBus))
 else
 some (.brk (r_1.1,r_1.2.1,r_1.2.2,s0,s1,s2,s3,s4,s5,s6))
 else
 bif (decide (((at' run.log t19.toNat).kind)=3))then
 (eT run.setting.plant (⟨s0,s1,s2,s3,s4,s5,s6⟩:State) ((at' run.log t19.toNat).step)).bind fun r_5=>
 some (.brk (r_1.1,r_1.2.1,r_1.2.2,r_5.1.closed,r_5.1.locked,r_5.1.badLink,r_5.1.on_,r_5.1.badSource,r_5.1.earthed,r_5.1.badBus))
 else
 bif (decide (((at' run.log t19.toNat).kind)=4))then
 (dF run.setting.plant (⟨s0,s1,s2,s3,s4,s5,s6⟩:State) ((at' run.log t19.toNat).part)).bind fun r_6=>
 some (.brk (r_1.1,r_1.2.1,r_1.2.2,r_6.1.closed,r_6.1.locked,r_6.1.badLink,r_6.1.on_,r_6.1.badSource,r_6.1.earthed,r_6.1.badBus))
 else
 bif (decide (((at' run.log t19.toNat).kind)=5))then
 (lM run.setting.plant (⟨s0,s1,s2,s3,s4,s5,s6⟩:State) ((at' run.log t19.toNat).part)).bind fun r_7=>
 some (.brk (r_1.1,r_1.2.1,r_1.2.2,r_7.1.closed,r_7.1.locked,r_7.1.badLink,r_7.1.on_,r_7.1.badSource,r_7.1.earthed,r_7.1.badBus))
 else
 some (.brk (r_1.1,r_1.2.1,r_1.2.2,s0,s1,s2,s3,s4,s5,s6)))) fun o=>match o with
 | .ret v=>some v
 | .brk (o06,o07,o08,s02,s12,s22,s32,s42,s52,s62)=>
 some (.next (o06,o07,o08,s02,s12,s22,s32,s42,s52,s62,(IntKind.wrap .i64 (t19+1))))
 else
 some (.done (.brk (o0,o01,o02,s0,s1,s2,s3,s4,s5,s6)))
def qf (o_:(List (Int × Int))) (o_1:(List aB)) (o_2:(List aB)) (run:Run):Option ((List (Int × Int)) × (List aB) × (List aB)):=
 (dM run.setting.begin).bind fun r_=>
 Option.bind (aW (wU run) FUEL (o_,o_1,o_2,r_.closed,r_.locked,r_.badLink,r_.on_,r_.badSource,r_.earthed,r_.badBus,0)) fun o=>match o with
 | .ret v=>some v
 | .brk (o03,o04,o05,s01,s11,s21,s31,s41,s51,s61)=>
 (jL (run.log.length:Int) s01 s11 s21 s31 s41 s51 s61 o03 o04 o05 run).bind fun r_8=>
 some (r_8.1,r_8.2.1,r_8.2.2)
def yw (run:Run) (r_2:((List (Int × Int)) × (List aB) × (List aB))):((List fD) × Int)→Option (dG ((List fD) × Int) (Ex (List fD) ((List fD) × Int))):=
 fun zz=>match zz with
 |(out,t61)=>
 bif (decide (t61<(run.setting.plant.racks.length:Int)))then
 bn (((0:Int)≤t61∧t61<(r_2.2.1.length:Int))∧(gB [((at' r_2.2.1 t61.toNat).e0,false)]=true→(0:Int)≤t61∧t61<(r_2.2.1.length:Int))∧(gB [((bif (at' r_2.2.1 t61.toNat).e0 then true else(at' r_2.2.1 t61.toNat).e1),true)]=true→(0:Int)≤t61∧t61<(r_2.2.2.length:Int))∧(gB [((bif (bif (at' r_2.2.1 t61.toNat).e0 then true else(at' r_2.2.1 t61.toNat).e1)then(!((at' r_2.2.2 t61.toNat).e0))else false),true)]=true→(0:Int)≤t61∧t61<(r_2.2.2.length:Int))) (
 bif (bif (bif (bif (at' r_2.2.1 t61.toNat).e0 then true else(at' r_2.2.1 t61.toNat).e1)then(!((at' r_2.2.2 t61.toNat).e0))else false)then(!((at' r_2.2.2 t61.toNat).e1))else false)then
 bn (((out.length+[(⟨t61,((bD aS t61 r_2.1).getD 0)⟩:fD)].length)*16≤140737488355328)∧(out.length+[(⟨t61,((bD aS t61 r_2.1).getD 0)⟩:fD)].length≤4611686018427387904)) (
 some (.next ((out++[(⟨t61,((bD aS t61 r_2.1).getD 0)⟩:fD)]),(IntKind.wrap .i64 (t61+1)))))
 else
 some (.next (out,(IntKind.wrap .i64 (t61+1)))))
 else
 some (.done (.brk out))
def uG (run:Run):Option ((List fD) × Int):=
 (fw run).bind fun r_=>
 bif r_ then
 some (([]:List fD),5)
 else
 (tX run).bind fun r_1=>
 (qf ([]:(List (Int × Int))) ([]:List aB) ([]:List aB) run).bind fun r_2=>
 Option.bind (aW (yw run r_2) FUEL (([]:List fD),0)) fun o=>match o with
 | .ret v=>some v
 | .brk out1=>
 some (out1,0)
def eu (run:Run):Option (Int × Run):=
 (dB run).bind fun r_=>
 bif (!decide (r_=0))then
 some (r_,run)
 else
 bif (decide (run.done=0))then
 some (4,run)
 else
 (xu ((at' run.setting.items ((IntKind.wrap .i64 (run.done - 1)).toNat)).step)).bind fun r_1=>
 bn ((0:Int)≤(IntKind.wrap .i64 (run.done - 1))∧(IntKind.wrap .i64 (run.done - 1))<(run.setting.items.length:Int)) (
 (fo r_1 run).bind fun r_2=>
 bif (!decide (r_2.1=0))then
 some (r_2.1,(⟨r_2.2.setting,r_2.2.now,r_2.2.done,r_2.2.wait,r_2.2.back,run.log⟩:Run))
 else
 bn (((run.log.length+[(⟨3,r_1,(⟨0,0⟩:Part),0⟩:ai)].length)*48≤140737488355328)∧(run.log.length+[(⟨3,r_1,(⟨0,0⟩:Part),0⟩:ai)].length≤4611686018427387904)) (
 some (0,(⟨r_2.2.setting,r_2.2.now,(IntKind.wrap .i64 (r_2.2.done - 1)),false,true,(run.log++[(⟨3,r_1,(⟨0,0⟩:Part),0⟩:ai)])⟩:Run))))
def jX (x:Part) (kind:Int) (run:Run):Option (Int × Run):=
 (dB run).bind fun r_=>
 bif (!decide (r_=0))then
 some (r_,run)
 else
 (dF run.setting.plant run.now x).bind fun r_1=>
 bif (!decide (r_1.2=0))then
 some (r_1.2,run)
 else
 bn (((run.log.length+[(⟨kind,(⟨0,0⟩:aj),x,0⟩:ai)].length)*48≤140737488355328)∧(run.log.length+[(⟨kind,(⟨0,0⟩:aj),x,0⟩:ai)].length≤4611686018427387904)) (
 some (0,(⟨run.setting,r_1.1,run.done,run.wait,run.back,(run.log++[(⟨kind,(⟨0,0⟩:aj),x,0⟩:ai)])⟩:Run)))
def bY (x:Part) (run:Run):Option (Int × Run):=
 (jX x 4 run).bind fun r_=>
 some (r_.1,r_.2)
def rE (x:Part) (kind:Int) (run:Run):Option (Int × Run):=
 (dB run).bind fun r_=>
 bif (!decide (r_=0))then
 some (r_,run)
 else
 (lM run.setting.plant run.now x).bind fun r_1=>
 bif (!decide (r_1.2=0))then
 some (r_1.2,run)
 else
 bn (((run.log.length+[(⟨kind,(⟨0,0⟩:aj),x,0⟩:ai)].length)*48≤140737488355328)∧(run.log.length+[(⟨kind,(⟨0,0⟩:aj),x,0⟩:ai)].length≤4611686018427387904)) (
 some (0,(⟨run.setting,r_1.1,run.done,run.wait,run.back,(run.log++[(⟨kind,(⟨0,0⟩:aj),x,0⟩:ai)])⟩:Run)))
def pU (x:Part) (run:Run):Option (Int × Run):=
 (rE x 5 run).bind fun r_=>
 some (r_.1,r_.2)
def vH (run:Run):Option (State × Int):=
 (fw run).bind fun r_=>
 bif r_ then
 some ((⟨([]:List Bool),([]:List Bool),([]:List Bool),([]:List Bool),([]:List Bool),([]:List Bool),([]:List Bool)⟩:State),5)
 else
 (dM run.now).bind fun r_1=>
 some (r_1,0)
def jA (run:Run):Option ((List ai) × Int):=
 (fw run).bind fun r_=>
 bif r_ then
 some (([]:List ai),5)
 else
 bn (((0:Int)≤(run.log.length:Int))∧((48:Int)*(run.log.length:Int)≤281474976710656)∧(((run.log.length:Int):Int)≤9223372036854775807)) (
 some (run.log,0))
def uP:Option Bool:=
 (iI).bind fun r_=>
 (bH r_.1 r_.2.1 (⟨([]:List Int),([]:List Int),([]:List aj),([]:List aj)⟩:Task) r_.2.2).bind fun r_1=>
 bif r_1.1 then
 bif (bif (bif (!decide (r_1.2.2.1=0))then true else(!decide (r_1.2.1=2)))then true else false)then
 some false
 else
 (aX r_1.2.2.2).bind fun r_2=>
 (aX r_2.2).bind fun r_3=>
 (dw 7 r_3.2).bind fun r_4=>
 (aX r_4.2).bind fun r_5=>
 (uG r_5.2).bind fun r_6=>
 bn (gB [((bif (bif (bif (bif (bif (!decide (r_2.1=0))then true else(!decide (r_3.1=130)))then true else(!decide (r_4.1=0)))then true else(!decide (r_5.1=0)))then true else(!decide (r_6.2=0)))then true else(!decide ((r_6.1.length:Int)=1))),false)]=true→(0:Int)≤0∧0<(r_6.1.length:Int)) (
 bif (bif (bif (bif (bif (bif (bif (!decide (r_2.1=0))then true else(!decide (r_3.1=130)))then true else(!decide (r_4.1=0)))then true else(!decide (r_5.1=0)))then true else(!decide (r_6.2=0)))then true else(!decide ((r_6.1.length:Int)=1)))then true else(!((decide (((at' r_6.1 0).rack)=0)) && ((decide (((at' r_6.1 0).event)=0)) && true))))then
 some false
 else
 (eu r_5.2).bind fun r_7=>
 (bY (⟨3,0⟩:Part) r_7.2).bind fun r_8=>
 (eu r_8.2).bind fun r_9=>
 (pU (⟨3,0⟩:Part) r_9.2).bind fun r_10=>
 bif (bif (bif (bif (!decide (r_7.1=0))then true else(!decide (r_8.1=0)))then true else(!decide (r_9.1=47)))then true else(!decide (r_10.1=0)))then
 some false
 else
 (eu r_10.2).bind fun r_11=>
 bif (!decide (r_11.1=0))then
 some false
 else
 (eu r_11.2).bind fun r_12=>
 bif (!decide (r_12.1=4))then
 some false
 else
 (aX r_12.2).bind fun r_13=>
 bif (!decide (r_13.1=9))then
 some false
 else
 (vH r_13.2).bind fun r_14=>
 (jA r_13.2).bind fun r_15=>
 (bif gB [((bif (decide (r_14.2=0))then(decide (r_15.2=0))else false),true)]then xw r_14.1 r_.2.1 else some default).bind fun r_16=>
 some (bif (bif (bif (decide (r_14.2=0))then(decide (r_15.2=0))else false)then r_16 else false)then(decide ((r_15.1.length:Int)=7))else false))
 else
 some false
def lH (x:ai):Option Bool:=
 bif (decide (x.kind=1))then
 bif (decide (x.kind=1))then
 some ((decide (x.kind=x.kind)) && ((decide (x.step.deed=x.step.deed)) && ((decide (x.step.index=x.step.index)) && ((decide (x.part.kind=0)) && ((decide (x.part.index=0)) && ((decide (x.who=0)) && true))))))
 else
 bif (decide (x.kind=2))then
 some ((decide (x.kind=x.kind)) && ((decide (x.step.deed=0)) && ((decide (x.step.index=0)) && ((decide (x.part.kind=0)) && ((decide (x.part.index=0)) && ((decide (x.who=x.who)) && true))))))
 else
 bif (decide (x.kind=4))then
 bif (decide (x.kind=4))then
 some ((decide (x.kind=x.kind)) && ((decide (x.step.deed=0)) && ((decide (x.step.index=0)) && ((decide (x.part.kind=x.part.kind)) && ((decide (x.part.index=x.part.index)) && ((decide (x.who=0)) && true))))))
 else
 some false
 else
 bif (decide (x.kind=5))then
 some ((decide (x.kind=x.kind)) && ((decide (x.step.deed=0)) && ((decide (x.step.index=0)) && ((decide (x.part.kind=x.part.kind)) && ((decide (x.part.index=x.part.index)) && ((decide (x.who=0)) && true))))))
 else
 some false
 else
 bif (decide (x.kind=3))then
 some ((decide (x.kind=x.kind)) && ((decide (x.step.deed=x.step.deed)) && ((decide (x.step.index=x.step.index)) && ((decide (x.part.kind=0)) && ((decide (x.part.index=0)) && ((decide (x.who=0)) && true))))))
 else
 bif (decide (x.kind=2))then
 some ((decide (x.kind=x.kind)) && ((decide (x.step.deed=0)) && ((decide (x.step.index=0)) && ((decide (x.part.kind=0)) && ((decide (x.part.index=0)) && ((decide (x.who=x.who)) && true))))))
 else
 bif (decide (x.kind=4))then
 bif (decide (x.kind=4))then
 some ((decide (x.kind=x.kind)) && ((decide (x.step.deed=0)) && ((decide (x.step.index=0)) && ((decide (x.part.kind=x.part.kind)) && ((decide (x.part.index=x.part.index)) && ((decide (x.who=0)) && true))))))
 else
 some false
 else
 bif (decide (x.kind=5))then
 some ((decide (x.kind=x.kind)) && ((decide (x.step.deed=0)) && ((decide (x.step.index=0)) && ((decide (x.part.kind=x.part.kind)) && ((decide (x.part.index=x.part.index)) && ((decide (x.who=0)) && true))))))
 else
 some false
def qa:Option Unit:=
 some ()
def nE (x:ai) (run:Run):Option (Int × Run):=
 (aX run).bind fun r_=>
 some (r_.1,r_.2)
def lm (x:ai) (run:Run):Option (Int × Run):=
 (dw x.who run).bind fun r_=>
 some (r_.1,r_.2)
def oJ (x:ai) (run:Run):Option (Int × Run):=
 (eu run).bind fun r_=>
 some (r_.1,r_.2)
def kJ (x:ai) (run:Run):Option (Int × Run):=
 (bY x.part run).bind fun r_=>
 some (r_.1,r_.2)
def nC (x:ai) (run:Run):Option (Int × Run):=
 (pU x.part run).bind fun r_=>
 some (r_.1,r_.2)
def dQ (log:(List ai)):(Run × Int)→Option (dG (Run × Int) (Ex Run (Bool × Int × Int × Run))):=
 fun zz=>match zz with
 |(r_1,t37)=>
 bif (decide (t37<(log.length:Int)))then
 bn ((0:Int)≤t37∧t37<(log.length:Int)) (
 (lH (⟨(at' log t37.toNat).kind,((at' log t37.toNat).step),((at' log t37.toNat).part),(at' log t37.toNat).who⟩:ai)).bind fun r_3=>
 bif (!r_3)then
 some (.done (.ret (false,t37,3,(default:Run))))
 else
 (qa).bind fun r_4=>
 bif (aS ((at' log t37.toNat).kind) 1)then
 (nE (⟨(at' log t37.toNat).kind,((at' log t37.toNat).step),((at' log t37.toNat).part),(at' log t37.toNat).who⟩:ai) r_1).bind fun r_5=>
 bif (!decide (r_5.1=0))then
 some (.done (.ret (false,t37,r_5.1,(default:Run))))
 else
 bn ((0:Int)≤t37∧t37<(r_5.2.log.length:Int)) (
 bif (!((decide (((at' r_5.2.log t37.toNat).kind)=((at' log t37.toNat).kind))) && ((decide ((((at' r_5.2.log t37.toNat).step).deed)=(((at' log t37.toNat).step).deed))) && ((decide ((((at' r_5.2.log t37.toNat).step).index)=(((at' log t37.toNat).step).index))) && ((decide ((((at' r_5.2.log t37.toNat).part).kind)=(((at' log t37.toNat).part).kind))) && ((decide ((((at' r_5.2.log t37.toNat).part).index)=(((at' log t37.toNat).part).index))) && ((decide (((at' r_5.2.log t37.toNat).who)=((at' log t37.toNat).who))) && true)))))))then
 some (.done (.ret (false,t37,3,(default:Run))))
 else
 some (.next (r_5.2,(IntKind.wrap .i64 (t37+1)))))
 else
 bif (aS ((at' log t37.toNat).kind) 2)then
 (lm (⟨(at' log t37.toNat).kind,((at' log t37.toNat).step),((at' log t37.toNat).part),(at' log t37.toNat).who⟩:ai) r_1).bind fun r_6=>
 bif (!decide (r_6.1=0))then
 some (.done (.ret (false,t37,r_6.1,(default:Run))))
 else
 bn ((0:Int)≤t37∧t37<(r_6.2.log.length:Int)) (
 bif (!((decide (((at' r_6.2.log t37.toNat).kind)=((at' log t37.toNat).kind))) && ((decide ((((at' r_6.2.log t37.toNat).step).deed)=(((at' log t37.toNat).step).deed))) && ((decide ((((at' r_6.2.log t37.toNat).step).index)=(((at' log t37.toNat).step).index))) && ((decide ((((at' r_6.2.log t37.toNat).part).kind)=(((at' log t37.toNat).part).kind))) && ((decide ((((at' r_6.2.log t37.toNat).part).index)=(((at' log t37.toNat).part).index))) && ((decide (((at' r_6.2.log t37.toNat).who)=((at' log t37.toNat).who))) && true)))))))then
 some (.done (.ret (false,t37,3,(default:Run))))
 else
 some (.next (r_6.2,(IntKind.wrap .i64 (t37+1)))))
 else
 bif (aS ((at' log t37.toNat).kind) 3)then
 (oJ (⟨(at' log t37.toNat).kind,((at' log t37.toNat).step),((at' log t37.toNat).part),(at' log t37.toNat).who⟩:ai) r_1).bind fun r_7=>
 bif (!decide (r_7.1=0))then
 some (.done (.ret (false,t37,r_7.1,(default:Run))))
 else
 bn ((0:Int)≤t37∧t37<(r_7.2.log.length:Int)) (
 bif (!((decide (((at' r_7.2.log t37.toNat).kind)=((at' log t37.toNat).kind))) && ((decide ((((at' r_7.2.log t37.toNat).step).deed)=(((at' log t37.toNat).step).deed))) && ((decide ((((at' r_7.2.log t37.toNat).step).index)=(((at' log t37.toNat).step).index))) && ((decide ((((at' r_7.2.log t37.toNat).part).kind)=(((at' log t37.toNat).part).kind))) && ((decide ((((at' r_7.2.log t37.toNat).part).index)=(((at' log t37.toNat).part).index))) && ((decide (((at' r_7.2.log t37.toNat).who)=((at' log t37.toNat).who))) && true)))))))then
 some (.done (.ret (false,t37,3,(default:Run))))
 else
 some (.next (r_7.2,(IntKind.wrap .i64 (t37+1)))))
 else
 bif (aS ((at' log t37.toNat).kind) 4)then
 (kJ (⟨(at' log t37.toNat).kind,((at' log t37.toNat).step),((at' log t37.toNat).part),(at' log t37.toNat).who⟩:ai) r_1).bind fun r_8=>
 bif (!decide (r_8.1=0))then
 some (.done (.ret (false,t37,r_8.1,(default:Run))))
 else
 bn ((0:Int)≤t37∧t37<(r_8.2.log.length:Int)) (
 bif (!((decide (((at' r_8.2.log t37.toNat).kind)=((at' log t37.toNat).kind))) && ((decide ((((at' r_8.2.log t37.toNat).step).deed)=(((at' log t37.toNat).step).deed))) && ((decide ((((at' r_8.2.log t37.toNat).step).index)=(((at' log t37.toNat).step).index))) && ((decide ((((at' r_8.2.log t37.toNat).part).kind)=(((at' log t37.toNat).part).kind))) && ((decide ((((at' r_8.2.log t37.toNat).part).index)=(((at' log t37.toNat).part).index))) && ((decide (((at' r_8.2.log t37.toNat).who)=((at' log t37.toNat).who))) && true)))))))then
 some (.done (.ret (false,t37,3,(default:Run))))
 else
 some (.next (r_8.2,(IntKind.wrap .i64 (t37+1)))))
 else
 bif (aS ((at' log t37.toNat).kind) 5)then
 (nC (⟨(at' log t37.toNat).kind,((at' log t37.toNat).step),((at' log t37.toNat).part),(at' log t37.toNat).who⟩:ai) r_1).bind fun r_9=>
 bif (!decide (r_9.1=0))then
 some (.done (.ret (false,t37,r_9.1,(default:Run))))
 else
 bn ((0:Int)≤t37∧t37<(r_9.2.log.length:Int)) (
 bif (!((decide (((at' r_9.2.log t37.toNat).kind)=((at' log t37.toNat).kind))) && ((decide ((((at' r_9.2.log t37.toNat).step).deed)=(((at' log t37.toNat).step).deed))) && ((decide ((((at' r_9.2.log t37.toNat).step).index)=(((at' log t37.toNat).step).index))) && ((decide ((((at' r_9.2.log t37.toNat).part).kind)=(((at' log t37.toNat).part).kind))) && ((decide ((((at' r_9.2.log t37.toNat).part).index)=(((at' log t37.toNat).part).index))) && ((decide (((at' r_9.2.log t37.toNat).who)=((at' log t37.toNat).who))) && true)))))))then
 some (.done (.ret (false,t37,3,(default:Run))))
 else
 some (.next (r_9.2,(IntKind.wrap .i64 (t37+1)))))
 else
 none)
 else
 some (.done (.brk r_1))
def eF (p:ay) (s_:State) (t:Task) (l:(List Item)) (log:(List ai)):Option (Bool × Int × Int × Run):=
 (bH p s_ t l).bind fun r_=>
 bif r_.1 then
 bif (!decide (r_.2.2.1=0))then
 some (false,r_.2.1,r_.2.2.1,(default:Run))
 else
 bif (decide (1000<(log.length:Int)))then
 some (false,0,2,(default:Run))
 else
 Option.bind (aW (dQ log) FUEL (r_.2.2.2,0)) fun o=>match o with
 | .ret v=>some v
 | .brk r_2=>
 some (true,(log.length:Int),0,r_2)
 else
 bn ((!decide (r_.2.2.1=0))=true) (
 some (false,r_.2.1,r_.2.2.1,(default:Run)))
def eD:Option Unit:=
 some ()
def uF:Option (Status × Int):=
 (eD).bind fun r_=>
 some ((⟨0,0,false,false⟩:Status),5)
def qg:Option (State × Int):=
 (eD).bind fun r_=>
 some ((⟨([]:List Bool),([]:List Bool),([]:List Bool),([]:List Bool),([]:List Bool),([]:List Bool),([]:List Bool)⟩:State),5)
def uE:Option ((List ai) × Int):=
 (eD).bind fun r_=>
 some (([]:List ai),5)
def pJ:Option ((List fD) × Int):=
 (eD).bind fun r_=>
 some (([]:List fD),5)
def gM:Option Int:=
 (eD).bind fun r_=>
 some 5
def sM:Option Int:=
 (gM).bind fun r_=>
 bif (!decide (r_=0))then
 some r_
 else
 none
def tN (who:Int):Option Int:=
 (gM).bind fun r_=>
 bif (!decide (r_=0))then
 some r_
 else
 none
def r9:Option Int:=
 (gM).bind fun r_=>
 bif (!decide (r_=0))then
 some r_
 else
 none
def jG (x:Part) (kind:Int):Option Int:=
 (gM).bind fun r_=>
 bif (!decide (r_=0))then
 some r_
 else
 none
def qW (x:Part):Option Int:=
 (jG x 4).bind fun r_=>
 some r_
def rV (x:Part):Option Int:=
 (jG x 5).bind fun r_=>
 some r_
def vJ:Option Int:=
 (eD).bind fun r_=>
 some 5
def eB (run:Int) (run1:Bool) (run2:Bool) (run3:(List ai)):Option Unit:=
 some ()
def oV (run:Int) (run1:Bool) (run2:Bool) (run3:(List ai)):Option (Status × Int):=
 (eB run run1 run2 run3).bind fun r_=>
 some ((⟨0,0,false,false⟩:Status),5)
def qj (run:Int) (run1:Bool) (run2:Bool) (run3:(List ai)):Option (State × Int):=
 (eB run run1 run2 run3).bind fun r_=>
 some ((⟨([]:List Bool),([]:List Bool),([]:List Bool),([]:List Bool),([]:List Bool),([]:List Bool),([]:List Bool)⟩:State),5)
def tH (run:Int) (run1:Bool) (run2:Bool) (run3:(List ai)):Option ((List ai) × Int):=
 (eB run run1 run2 run3).bind fun r_=>
 some (([]:List ai),5)
def o6 (run:Int) (run1:Bool) (run2:Bool) (run3:(List ai)):Option ((List fD) × Int):=
 (eB run run1 run2 run3).bind fun r_=>
 some (([]:List fD),5)
def gL (run:Int) (run1:Bool) (run2:Bool) (run3:(List ai)):Option Int:=
 (eB run run1 run2 run3).bind fun r_=>
 some 5
def ru (run:Int) (run1:Bool) (run2:Bool) (run3:(List ai)):Option Int:=
 (gL run run1 run2 run3).bind fun r_=>
 bif (!decide (r_=0))then
 some r_
 else
 bif run2 then
 some 9
 else
 bif run1 then
 some 130
 else
 none
def tL (who:Int) (run:Int) (run1:Bool) (run2:Bool) (run3:(List ai)):Option (Int × Int × Bool × Bool × (List ai)):=
 (gL run run1 run2 run3).bind fun r_=>
 bif (!decide (r_=0))then
 some (r_,run,run1,run2,run3)
 else
 bif (!run1)then
 some (9,run,run1,run2,run3)
 else
 bif (bif (decide (who<1))then true else(decide (1000<who)))then
 some (1,run,run1,run2,run3)
 else
 bn (((run3.length+[(⟨2,(⟨0,0⟩:aj),(⟨0,0⟩:Part),who⟩:ai)].length)*48≤140737488355328)∧(run3.length+[(⟨2,(⟨0,0⟩:aj),(⟨0,0⟩:Part),who⟩:ai)].length≤4611686018427387904)) (
 some (0,run,false,run2,(run3++[(⟨2,(⟨0,0⟩:aj),(⟨0,0⟩:Part),who⟩:ai)])))
def rP (run:Int) (run1:Bool) (run2:Bool) (run3:(List ai)):Option Int:=
 (gL run run1 run2 run3).bind fun r_=>
 bif (!decide (r_=0))then
 some r_
 else
 bif (decide (run=0))then
 some 4
 else
 none
def jO (x:Part) (kind:Int) (run:Int) (run1:Bool) (run2:Bool) (run3:(List ai)):Option Int:=
 (gL run run1 run2 run3).bind fun r_=>
 bif (!decide (r_=0))then
 some r_
 else
 none
def qV (x:Part) (run:Int) (run1:Bool) (run2:Bool) (run3:(List ai)):Option Int:=
 (jO x 4 run run1 run2 run3).bind fun r_=>
 some r_
def rM (x:Part) (run:Int) (run1:Bool) (run2:Bool) (run3:(List ai)):Option Int:=
 (jO x 5 run run1 run2 run3).bind fun r_=>
 some r_
def qd (run:Int) (run1:Bool) (run2:Bool) (run3:(List ai)):Option Int:=
 (eB run run1 run2 run3).bind fun r_=>
 some 5
def oZ  :((List Item) × Int)→Option (dG ((List Item) × Int) (Ex (List Item) Bool)):=
 fun zz=>match zz with
 |(l,i)=>
 bif (decide (i<32))then
 bn ((2≠(0:Int))∧((l.length+[(⟨(⟨1,0⟩:aj),false⟩:Item),(⟨(⟨2,0⟩:aj),(decide ((Int.tmod i 2)=0))⟩:Item)].length)*24≤140737488355328)∧(l.length+[(⟨(⟨1,0⟩:aj),false⟩:Item),(⟨(⟨2,0⟩:aj),(decide ((Int.tmod i 2)=0))⟩:Item)].length≤4611686018427387904)) (
 some (.next ((l++[(⟨(⟨1,0⟩:aj),false⟩:Item),(⟨(⟨2,0⟩:aj),(decide ((Int.tmod i 2)=0))⟩:Item)]),(IntKind.wrap .i64 (i+1)))))
 else
 some (.done (.brk l))
def fT  :(Run × Int)→Option (dG (Run × Int) (Ex Run Bool)):=
 fun zz=>match zz with
 |(r_3,i1)=>
 bif (decide (i1<64))then
 (aX r_3).bind fun r_5=>
 bif (!decide (r_5.1=0))then
 some (.done (.ret false))
 else
 bif (decide ((Int.tmod i1 4)=1))then
 (dw 1000 r_5.2).bind fun r_6=>
 bn (gB [(false,false)]=true→4≠(0:Int)) (
 bif (!decide (r_6.1=0))then
 some (.done (.ret false))
 else
 some (.next (r_6.2,(IntKind.wrap .i64 (i1+1)))))
 else
 bn (gB [(false,false)]=true→4≠(0:Int)) (
 some (.next (r_5.2,(IntKind.wrap .i64 (i1+1)))))
 else
 some (.done (.brk r_3))
def fV  :(Run × Int)→Option (dG (Run × Int) (Ex Run Bool)):=
 fun zz=>match zz with
 |(r_8,i2)=>
 bif (decide (i2<1000))then
 (bY (⟨1,2⟩:Part) r_8).bind fun r_10=>
 bif (!decide (r_10.1=0))then
 some (.done (.ret false))
 else
 some (.next (r_10.2,(IntKind.wrap .i64 (i2+1))))
 else
 some (.done (.brk r_8))
def kL:Option Bool:=
 (iI).bind fun r_=>
 Option.bind (aW oZ FUEL (([]:List Item),0)) fun o=>match o with
 | .ret v=>some v
 | .brk l1=>
 (bH r_.1 r_.2.1 (⟨([]:List Int),([]:List Int),([]:List aj),([]:List aj)⟩:Task) l1).bind fun r_1=>
 bn (r_1.1=true) (
 (bH r_.1 r_.2.1 (⟨([]:List Int),([]:List Int),([]:List aj),([]:List aj)⟩:Task) (l1++[(⟨((at' l1 0).step),(at' l1 0).ack⟩:Item)])).bind fun r_2=>
 bn (r_2.1=false) (
 bn (((0:Int)≤0∧0<(l1.length:Int))∧((l1.length+([(⟨((at' l1 0).step),(at' l1 0).ack⟩:Item)].length))*24≤140737488355328)∧(l1.length+([(⟨((at' l1 0).step),(at' l1 0).ack⟩:Item)].length)≤4611686018427387904)) (
 bif (bif (bif (bif (bif (!decide (r_1.2.1=64))then true else(!decide (r_1.2.2.1=0)))then true else(!decide (r_2.2.1=0)))then true else(!decide (r_2.2.2.1=2)))then true else false)then
 some false
 else
 Option.bind (aW fT FUEL (r_1.2.2.2,0)) fun o=>match o with
 | .ret v=>some v
 | .brk r_4=>
 (aX r_4).bind fun r_7=>
 bif (!decide (r_7.1=4))then
 some false
 else
 Option.bind (aW fV FUEL (r_7.2,80)) fun o=>match o with
 | .ret v=>some v
 | .brk r_9=>
 (jA r_9).bind fun r_11=>
 bif (bif (!decide (r_11.2=0))then true else(!decide ((r_11.1.length:Int)=1000)))then
 some false
 else
 (bY (⟨1,2⟩:Part) r_9).bind fun r_12=>
 bif (!decide (r_12.1=2))then
 some false
 else
 (eu r_12.2).bind fun r_13=>
 bif (!decide (r_13.1=2))then
 some false
 else
 (aX r_13.2).bind fun r_14=>
 bif (!decide (r_14.1=2))then
 some false
 else
 (dw 1 r_14.2).bind fun r_15=>
 bif (!decide (r_15.1=2))then
 some false
 else
 (eF r_.1 r_.2.1 (⟨([]:List Int),([]:List Int),([]:List aj),([]:List aj)⟩:Task) l1 r_11.1).bind fun r_16=>
 bn (r_16.1=true) (
 (eF r_.1 r_.2.1 (⟨([]:List Int),([]:List Int),([]:List aj),([]:List aj)⟩:Task) l1 (r_11.1++[(⟨(at' r_11.1 0).kind,((at' r_11.1 0).step),((at' r_11.1 0).part),(at' r_11.1 0).who⟩:ai)])).bind fun r_17=>
 bn (r_17.1=false) (
 bn (((0:Int)≤0∧0<(r_11.1.length:Int))∧((r_11.1.length+[(⟨(at' r_11.1 0).kind,((at' r_11.1 0).step),((at' r_11.1 0).part),(at' r_11.1 0).who⟩:ai)].length)*48≤140737488355328)∧(r_11.1.length+[(⟨(at' r_11.1 0).kind,((at' r_11.1 0).step),((at' r_11.1 0).part),(at' r_11.1 0).who⟩:ai)].length≤4611686018427387904)) (
 bif (bif (bif (bif (!decide (r_16.2.1=1000))then true else(!decide (r_16.2.2.1=0)))then true else(!decide (r_17.2.1=0)))then true else(!decide (r_17.2.2.1=2)))then
 some false
 else
 bn ((0:Int)≤0∧0<(2:Int)) (
 (uF).bind fun r_18=>
 (qg).bind fun r_19=>
 (uE).bind fun r_20=>
 (pJ).bind fun r_21=>
 (bif gB [((bif (bif (bif (bif (bif (bif (bif (!((decide (r_18.1.done=0)) && ((decide (r_18.1.left=0)) && ((r_18.1.waiting==false) && ((r_18.1.back==false) && true)))))then true else(!decide (r_18.2=5)))then true else(!decide ((r_19.1.closed.length:Int)=0)))then true else(!decide (r_19.2=5)))then true else(!decide ((r_20.1.length:Int)=0)))then true else(!decide (r_20.2=5)))then true else(!decide ((r_21.1.length:Int)=0)))then true else(!decide (r_21.2=5))),false)]then sM else some default).bind fun r_22=>
 bif (bif (bif (bif (bif (bif (bif (bif (bif (!((decide (r_18.1.done=0)) && ((decide (r_18.1.left=0)) && ((r_18.1.waiting==false) && ((r_18.1.back==false) && true)))))then true else(!decide (r_18.2=5)))then true else(!decide ((r_19.1.closed.length:Int)=0)))then true else(!decide (r_19.2=5)))then true else(!decide ((r_20.1.length:Int)=0)))then true else(!decide (r_20.2=5)))then true else(!decide ((r_21.1.length:Int)=0)))then true else(!decide (r_21.2=5)))then true else(!decide (r_22=5)))then
 some false
 else
 (tN 1).bind fun r_23=>
 (bif gB [((!decide (r_23=5)),false)]then r9 else some default).bind fun r_24=>
 (bif gB [((bif (!decide (r_23=5))then true else(!decide (r_24=5))),false)]then qW (⟨0,0⟩:Part)else some default).bind fun r_25=>
 (bif gB [((bif (bif (!decide (r_23=5))then true else(!decide (r_24=5)))then true else(!decide (r_25=5))),false)]then rV (⟨0,0⟩:Part)else some default).bind fun r_26=>
 (bif gB [((bif (bif (bif (!decide (r_23=5))then true else(!decide (r_24=5)))then true else(!decide (r_25=5)))then true else(!decide (r_26=5))),false)]then vJ else some default).bind fun r_27=>
 bif (bif (bif (bif (bif (!decide (r_23=5))then true else(!decide (r_24=5)))then true else(!decide (r_25=5)))then true else(!decide (r_26=5)))then true else(!decide (r_27=5)))then
 some false
 else
 bn ((0:Int)≤1∧1<(2:Int)) (
 (oV 0 false false ([]:List ai)).bind fun r_28=>
 (qj 0 false false ([]:List ai)).bind fun r_29=>
 (tH 0 false false ([]:List ai)).bind fun r_30=>
 (o6 0 false false ([]:List ai)).bind fun r_31=>
 (bif gB [((bif (bif (bif (bif (bif (bif (bif (!((decide (r_28.1.done=0)) && ((decide (r_28.1.left=0)) && ((r_28.1.waiting==false) && ((r_28.1.back==false) && true)))))then true else(!decide (r_28.2=5)))then true else(!decide ((r_29.1.closed.length:Int)=0)))then true else(!decide (r_29.2=5)))then true else(!decide ((r_30.1.length:Int)=0)))then true else(!decide (r_30.2=5)))then true else(!decide ((r_31.1.length:Int)=0)))then true else(!decide (r_31.2=5))),false)]then ru 0 false false ([]:List ai)else some default).bind fun r_32=>
 bif (bif (bif (bif (bif (bif (bif (bif (bif (!((decide (r_28.1.done=0)) && ((decide (r_28.1.left=0)) && ((r_28.1.waiting==false) && ((r_28.1.back==false) && true)))))then true else(!decide (r_28.2=5)))then true else(!decide ((r_29.1.closed.length:Int)=0)))then true else(!decide (r_29.2=5)))then true else(!decide ((r_30.1.length:Int)=0)))then true else(!decide (r_30.2=5)))then true else(!decide ((r_31.1.length:Int)=0)))then true else(!decide (r_31.2=5)))then true else(!decide (r_32=5)))then
 some false
 else
 (tL 1 0 false false ([]:List ai)).bind fun r_33=>
 (bif gB [((!decide (r_33.1=5)),false)]then rP r_33.2.1 r_33.2.2.1 r_33.2.2.2.1 r_33.2.2.2.2 else some default).bind fun r_34=>
 (bif gB [((bif (!decide (r_33.1=5))then true else(!decide (r_34=5))),false)]then qV (⟨0,0⟩:Part) r_33.2.1 r_33.2.2.1 r_33.2.2.2.1 r_33.2.2.2.2 else some default).bind fun r_35=>
 (bif gB [((bif (bif (!decide (r_33.1=5))then true else(!decide (r_34=5)))then true else(!decide (r_35=5))),false)]then rM (⟨0,0⟩:Part) r_33.2.1 r_33.2.2.1 r_33.2.2.2.1 r_33.2.2.2.2 else some default).bind fun r_36=>
 (bif gB [((bif (bif (bif (!decide (r_33.1=5))then true else(!decide (r_34=5)))then true else(!decide (r_35=5)))then true else(!decide (r_36=5))),false)]then qd r_33.2.1 r_33.2.2.1 r_33.2.2.2.1 r_33.2.2.2.2 else some default).bind fun r_37=>
 bif (bif (bif (bif (bif (!decide (r_33.1=5))then true else(!decide (r_34=5)))then true else(!decide (r_35=5)))then true else(!decide (r_36=5)))then true else(!decide (r_37=5)))then
 some false
 else
 (uP).bind fun r_38=>
 some r_38))))))))
end Sg
