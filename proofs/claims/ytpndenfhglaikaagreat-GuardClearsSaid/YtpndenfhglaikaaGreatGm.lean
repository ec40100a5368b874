import Derived.Test.YtpndenfhglaikaaGreatLc
set_option linter.all false
namespace Sg
open Go
structure Source where
 bus:Int
 kind:Int
 power:Int
 sync:Int
 bK:Int
instance:Inhabited Source:=⟨⟨default,default,default,default,default⟩⟩
def Source.cell (x:Source):Nat→DV
 |0=>(.int .i64 x.bus)
 |1=>(.int .i64 x.kind)
 |2=>(.int .i64 x.power)
 |3=>(.int .i64 x.sync)
 |4=>(.int .i64 x.bK)
 |_=> .nilp
structure bP where
 amps:Int
 millis:Int
instance:Inhabited bP:=⟨⟨default,default⟩⟩
def bP.cell (x:bP):Nat→DV
 |0=>(.int .i64 x.amps)
 |1=>(.int .i64 x.millis)
 |_=> .nilp
structure Link where
 a:Int
 b:Int
 kind:Int
 most:Int
 bK:Int
 trip:(List bP)
instance:Inhabited Link:=⟨⟨default,default,default,default,default,default⟩⟩
def Link.cell (x:Link):Nat→DV
 |0=>(.int .i64 x.a)
 |1=>(.int .i64 x.b)
 |2=>(.int .i64 x.kind)
 |3=>(.int .i64 x.most)
 |4=>(.int .i64 x.bK)
 |5=>(aD none 2 bP.cell x.trip)
 |_=> .nilp
structure bL where
 e0:Int
 e1:Int
instance:Inhabited bL:=⟨⟨default,default⟩⟩
def bL.cell (x:bL):Nat→DV
 |0=>(.int .i64 x.e0)
 |1=>(.int .i64 x.e1)
 |_=> .nilp
structure aJ where
 feeds:bL
 power:Int
 paths:Int
instance:Inhabited aJ:=⟨⟨default,default,default⟩⟩
def aJ.cell (x:aJ):Nat→DV
 |0=>(.int .i64 x.feeds.e0)
 |1=>(.int .i64 x.feeds.e1)
 |2=>(.int .i64 x.power)
 |3=>(.int .i64 x.paths)
 |_=> .nilp
structure ah where
 buses:Int
 sources:(List Source)
 links:(List Link)
 racks:(List aJ)
instance:Inhabited ah:=⟨⟨default,default,default,default⟩⟩
def ah.cell (x:ah):Nat→DV
 |0=>(.int .i64 x.buses)
 |1=>(aD none 5 Source.cell x.sources)
 |2=>(aD none 6 Link.cell x.links)
 |3=>(aD none 4 aJ.cell x.racks)
 |_=> .nilp
structure State where
 closed:(List Bool)
 locked:(List Bool)
 badLink:(List Bool)
 on_:(List Bool)
 badSource:(List Bool)
 earthed:(List Bool)
 badBus:(List Bool)
instance:Inhabited State:=⟨⟨default,default,default,default,default,default,default⟩⟩
def State.cell (x:State):Nat→DV
 |0=>(aD none 1 af x.closed)
 |1=>(aD none 1 af x.locked)
 |2=>(aD none 1 af x.badLink)
 |3=>(aD none 1 af x.on_)
 |4=>(aD none 1 af x.badSource)
 |5=>(aD none 1 af x.earthed)
 |6=>(aD none 1 af x.badBus)
 |_=> .nilp
structure dX where
 l:(List Bool)
 n:Int
instance:Inhabited dX:=⟨⟨default,default⟩⟩
def dX.cell (x:dX):Nat→DV
 |0=>(aD none 1 af x.l)
 |1=>(.int .i64 x.n)
 |_=> .nilp
structure Way where
 there:Bool
 bK:Int
 links:(List Int)
instance:Inhabited Way:=⟨⟨default,default,default⟩⟩
def Way.cell (x:Way):Nat→DV
 |0=>(.bool x.there)
 |1=>(.int .i64 x.bK)
 |2=>(aD none 1 (aC .i64) x.links)
 |_=> .nilp
structure Short where
 source:Int
 bK:Int
 amps:Int
 links:(List Int)
instance:Inhabited Short:=⟨⟨default,default,default,default⟩⟩
def Short.cell (x:Short):Nat→DV
 |0=>(.int .i64 x.source)
 |1=>(.int .i64 x.bK)
 |2=>(.int .i64 x.amps)
 |3=>(aD none 1 (aC .i64) x.links)
 |_=> .nilp
structure Event where
 millis:Int
 link:Int
instance:Inhabited Event:=⟨⟨default,default⟩⟩
def Event.cell (x:Event):Nat→DV
 |0=>(.int .i64 x.millis)
 |1=>(.int .i64 x.link)
 |_=> .nilp
structure bg where
 events:(List Event)
 cleared:Bool
 millis:Int
 energy:Int
 state:State
instance:Inhabited bg:=⟨⟨default,default,default,default,default⟩⟩
def bg.cell (x:bg):Nat→DV
 |0=>(aD none 2 Event.cell x.events)
 |1=>(.bool x.cleared)
 |2=>(.int .i64 x.millis)
 |3=>(.int .i64 x.energy)
 |4=>(aD none 1 af x.state.closed)
 |5=>(aD none 1 af x.state.locked)
 |6=>(aD none 1 af x.state.badLink)
 |7=>(aD none 1 af x.state.on_)
 |8=>(aD none 1 af x.state.badSource)
 |9=>(aD none 1 af x.state.earthed)
 |10=>(aD none 1 af x.state.badBus)
 |_=> .nilp
structure Machine where
 clearing:bg
 p:ah
 bus:Int
 amps:(List Int)
 total:Int
 since:(List (Int × Int))
 now:Int
instance:Inhabited Machine:=⟨⟨default,default,default,default,default,default,default⟩⟩
def Machine.cell (x:Machine):Nat→DV
 |0=>(aD none 2 Event.cell x.clearing.events)
 |1=>(.bool x.clearing.cleared)
 |2=>(.int .i64 x.clearing.millis)
 |3=>(.int .i64 x.clearing.energy)
 |4=>(aD none 1 af x.clearing.state.closed)
 |5=>(aD none 1 af x.clearing.state.locked)
 |6=>(aD none 1 af x.clearing.state.badLink)
 |7=>(aD none 1 af x.clearing.state.on_)
 |8=>(aD none 1 af x.clearing.state.badSource)
 |9=>(aD none 1 af x.clearing.state.earthed)
 |10=>(aD none 1 af x.clearing.state.badBus)
 |11=>(.int .i64 x.p.buses)
 |12=>(aD none 5 Source.cell x.p.sources)
 |13=>(aD none 6 Link.cell x.p.links)
 |14=>(aD none 4 aJ.cell x.p.racks)
 |15=>(.int .i64 x.bus)
 |16=>(aD none 1 (aC .i64) x.amps)
 |17=>(.int .i64 x.total)
 |18=> .nilp
 |19=>(.int .i64 x.now)
 |_=> .nilp
structure Part where
 kind:Int
 index:Int
instance:Inhabited Part:=⟨⟨default,default⟩⟩
def Part.cell (x:Part):Nat→DV
 |0=>(.int .i64 x.kind)
 |1=>(.int .i64 x.index)
 |_=> .nilp
structure aH where
 head:(List (Int × Int))
instance:Inhabited aH:=⟨⟨default⟩⟩
def aH.cell (x:aH):Nat→DV
 |0=> .nilp
 |_=> .nilp
structure aG where
 buses:(List Int)
 sources:(List Int)
instance:Inhabited aG:=⟨⟨default,default⟩⟩
def aG.cell (x:aG):Nat→DV
 |0=>(aD none 1 (aC .i64) x.buses)
 |1=>(aD none 1 (aC .i64) x.sources)
 |_=> .nilp
structure ax where
 e0:Bool
 e1:Bool
instance:Inhabited ax:=⟨⟨default,default⟩⟩
def ax.cell (x:ax):Nat→DV
 |0=>(.bool x.e0)
 |1=>(.bool x.e1)
 |_=> .nilp
structure aj where
 events:(List Event)
 cleared:Bool
 millis:Int
 energy:Int
 state:State
instance:Inhabited aj:=⟨⟨default,default,default,default,default⟩⟩
def aj.cell (x:aj):Nat→DV
 |0=>(aD none 2 Event.cell x.events)
 |1=>(.bool x.cleared)
 |2=>(.int .i64 x.millis)
 |3=>(.int .i64 x.energy)
 |4=>(aD none 1 af x.state.closed)
 |5=>(aD none 1 af x.state.locked)
 |6=>(aD none 1 af x.state.badLink)
 |7=>(aD none 1 af x.state.on_)
 |8=>(aD none 1 af x.state.badSource)
 |9=>(aD none 1 af x.state.earthed)
 |10=>(aD none 1 af x.state.badBus)
 |_=> .nilp
def aG.ev (x:aG):Nat→EV
 |0=> .row 3 1 x.buses.length (au (aC .i64) x.buses)
 |1=> .row 3 1 x.sources.length (au (aC .i64) x.sources)
 |_=> .d .nilp
def mJ (x:Link):Int→Option (aM Int (Ex Unit Bool)):=
 fun i=>
 bif (decide (i<(x.trip.length:Int)))then
 bW ((0:Int)≤i∧i<(x.trip.length:Int)) (
 bif (bif (bif (bif (decide (((at' x.trip i.toNat).amps)<1))then true else(decide (1000000<((at' x.trip i.toNat).amps))))then true else(decide (((at' x.trip i.toNat).millis)<1)))then true else(decide (100000<((at' x.trip i.toNat).millis))))then
 some (.done (.ret false))
 else
 bW ((gB [((decide (0<i)),true)]=true→(0:Int)≤(IntKind.wrap .i64 (i - 1))∧(IntKind.wrap .i64 (i - 1))<(x.trip.length:Int))∧(gB [((decide (((at' x.trip i.toNat).amps)≤((at' x.trip ((IntKind.wrap .i64 (i - 1)).toNat)).amps))),false),((decide (0<i)),true)]=true→(0:Int)≤(IntKind.wrap .i64 (i - 1))∧(IntKind.wrap .i64 (i - 1))<(x.trip.length:Int))) (
 bif (bif (decide (0<i))then(bif (decide (((at' x.trip i.toNat).amps)≤((at' x.trip ((IntKind.wrap .i64 (i - 1)).toNat)).amps)))then true else(decide (((at' x.trip ((IntKind.wrap .i64 (i - 1)).toNat)).millis)≤((at' x.trip i.toNat).millis))))else false)then
 some (.done (.ret false))
 else
 some (.next (IntKind.wrap .i64 (i+1)))))
 else
 some (.done (.brk ()))
def rM (p:ah) (x:Link):Option Bool:=
 bif (bif (bif (bif (bif (bif (bif (bif (bif (bif (bif (decide (x.a<0))then true else(decide (p.buses≤x.a)))then true else(decide (x.b<0)))then true else(decide (p.buses≤x.b)))then true else(decide (x.a=x.b)))then true else(decide (x.kind<1)))then true else(decide (3<x.kind)))then true else(decide (x.most<1)))then true else(decide (100000<x.most)))then true else(decide (x.bK<10)))then true else(decide (100000<x.bK)))then
 some false
 else
 bif (bif (decide (6<(x.trip.length:Int)))then true else(bif (decide (0<(x.trip.length:Int)))then(!decide (x.kind=3))else false))then
 some false
 else
 Option.bind (ay (mJ x) FUEL (0)) fun o=>match o with
 | .ret v=>some v
 | .brk _=>
 some true
def lI (p:ah):Int→Option (aM Int (Ex Unit Int)):=
 fun i=>
 bif (decide (i<(p.sources.length:Int)))then
 bW ((0:Int)≤i∧i<(p.sources.length:Int)) (
 bif (bif (bif (bif (bif (bif (bif (bif (bif (bif (decide (((at' p.sources i.toNat).bus)<0))then true else(decide (p.buses≤((at' p.sources i.toNat).bus))))then true else(decide (((at' p.sources i.toNat).kind)<1)))then true else(decide (3<((at' p.sources i.toNat).kind))))then true else(decide (((at' p.sources i.toNat).power)<1)))then true else(decide (100000<((at' p.sources i.toNat).power))))then true else(decide (((at' p.sources i.toNat).sync)<0)))then true else(decide (8<((at' p.sources i.toNat).sync))))then true else(decide (((at' p.sources i.toNat).bK)<10)))then true else(decide (100000<((at' p.sources i.toNat).bK))))then
 some (.done (.ret 11))
 else
 some (.next (IntKind.wrap .i64 (i+1))))
 else
 some (.done (.brk ()))
def lM (p:ah):Int→Option (aM Int (Ex Unit Int)):=
 fun i1=>
 bif (decide (i1<(p.links.length:Int)))then
 (rM p (at' p.links i1.toNat)).bind fun r_=>
 bW ((0:Int)≤i1∧i1<(p.links.length:Int)) (
 bif (!r_)then
 some (.done (.ret 12))
 else
 some (.next (IntKind.wrap .i64 (i1+1))))
 else
 some (.done (.brk ()))
def lD (p:ah):Int→Option (aM Int (Ex Unit Int)):=
 fun i2=>
 bif (decide (i2<(p.racks.length:Int)))then
 bW ((0:Int)≤i2∧i2<(p.racks.length:Int)) (
 bif (decide ((((at' p.racks i2.toNat).feeds).e1)=(-1)))then
 bif (bif (bif (bif (bif (bif (bif (bif (bif (decide ((((at' p.racks i2.toNat).feeds).e0)<0))then true else(decide (p.buses≤(((at' p.racks i2.toNat).feeds).e0))))then true else(decide ((((at' p.racks i2.toNat).feeds).e1)<(-1))))then true else(decide (p.buses≤(((at' p.racks i2.toNat).feeds).e1))))then true else(decide ((((at' p.racks i2.toNat).feeds).e0)=(((at' p.racks i2.toNat).feeds).e1))))then true else(decide (((at' p.racks i2.toNat).power)<1)))then true else(decide (100000<((at' p.racks i2.toNat).power))))then true else(decide (((at' p.racks i2.toNat).paths)<0)))then true else(decide (1<((at' p.racks i2.toNat).paths))))then
 some (.done (.ret 13))
 else
 some (.next (IntKind.wrap .i64 (i2+1)))
 else
 bif (bif (bif (bif (bif (bif (bif (bif (bif (decide ((((at' p.racks i2.toNat).feeds).e0)<0))then true else(decide (p.buses≤(((at' p.racks i2.toNat).feeds).e0))))then true else(decide ((((at' p.racks i2.toNat).feeds).e1)<(-1))))then true else(decide (p.buses≤(((at' p.racks i2.toNat).feeds).e1))))then true else(decide ((((at' p.racks i2.toNat).feeds).e0)=(((at' p.racks i2.toNat).feeds).e1))))then true else(decide (((at' p.racks i2.toNat).power)<1)))then true else(decide (100000<((at' p.racks i2.toNat).power))))then true else(decide (((at' p.racks i2.toNat).paths)<0)))then true else(decide (2<((at' p.racks i2.toNat).paths))))then
 some (.done (.ret 13))
 else
 some (.next (IntKind.wrap .i64 (i2+1))))
 else
 some (.done (.brk ()))
def kQ (p:ah):Option Int:=
 bif (bif (decide (p.buses<1))then true else(decide (24<p.buses)))then
 some 10
 else
 bif (decide (8<(p.sources.length:Int)))then
 some 11
 else
 Option.bind (ay (lI p) FUEL (0)) fun o=>match o with
 | .ret v=>some v
 | .brk _=>
 bif (decide (40<(p.links.length:Int)))then
 some 12
 else
 Option.bind (ay (lM p) FUEL (0)) fun o=>match o with
 | .ret v=>some v
 | .brk _=>
 bif (decide (24<(p.racks.length:Int)))then
 some 13
 else
 Option.bind (ay (lD p) FUEL (0)) fun o=>match o with
 | .ret v=>some v
 | .brk _=>
 some 0
def nT (p:ah):Int→Option (aM Int (Ex Unit Bool)):=
 fun i=>
 bif (decide (i<(p.links.length:Int)))then
 bW ((0:Int)≤i∧i<(p.links.length:Int)) (
 bif (decide (20<(((at' p.links i.toNat).trip).length:Int)))then
 some (.done (.ret true))
 else
 some (.next (IntKind.wrap .i64 (i+1))))
 else
 some (.done (.brk ()))
def uZ (p:ah):Option Bool:=
 bif (bif (bif (decide (60<(p.sources.length:Int)))then true else(decide (60<(p.links.length:Int))))then true else(decide (60<(p.racks.length:Int))))then
 some true
 else
 Option.bind (ay (nT p) FUEL (0)) fun o=>match o with
 | .ret v=>some v
 | .brk _=>
 (kQ p).bind fun r_=>
 some (bif (decide (r_=0))then(bif (decide (10<p.buses))then true else(decide (16<(p.links.length:Int))))else false)
def bn (n:Int) (first:Int) (last:Int):Option Bool:=
 some (bif (decide (first≤n))then(decide (n≤last))else false)
def q8 (p:ah):Option (Int × (List Source) × (List Link) × (List aJ)):=
 some (p.buses,p.sources,p.links,p.racks)
def wN (p:ah):Option (Int × (List Source) × (List Link) × (List aJ)):=
 some (p.buses,p.sources,p.links,p.racks)
def wP (p:ah):Option (Int × (List Source) × (List Link) × (List aJ)):=
 some (p.buses,p.sources,p.links,p.racks)
def lu (x:Source) (x1:Int) (x11:(List Source)) (x12:(List Link)) (x13:(List aJ)):Option Bool:=
 (bn x.bus 0 (IntKind.wrap .i64 (x1 - 1))).bind fun r_=>
 (bif gB [(r_,true)]then bn x.kind 1 3 else some default).bind fun r_1=>
 (bif gB [((bif r_ then r_1 else false),true)]then bn x.power 1 100000 else some default).bind fun r_2=>
 (bif gB [((bif (bif r_ then r_1 else false)then r_2 else false),true)]then bn x.sync 0 8 else some default).bind fun r_3=>
 (bif gB [((bif (bif (bif r_ then r_1 else false)then r_2 else false)then r_3 else false),true)]then bn x.bK 10 100000 else some default).bind fun r_4=>
 some (bif (bif (bif (bif r_ then r_1 else false)then r_2 else false)then r_3 else false)then r_4 else false)
def ru (x:Source) (x1:Int) (x11:(List Source)) (x12:(List Link)) (x13:(List aJ)):Option Bool:=
 (lu x x1 x11 x12 x13).bind fun r_=>
 some (!r_)
def j5 (s_:(List Source)) (f_:Int) (f_1:(List Source)) (f_2:(List Link)) (f_3:(List aJ)):Int→Option (aM Int (Ex Unit Int)):=
 fun t8=>
 bif (decide (t8<(s_.length:Int)))then
 (ru (at' s_ t8.toNat) f_ f_1 f_2 f_3).bind fun r_=>
 bW ((0:Int)≤t8∧t8<(s_.length:Int)) (
 bif r_ then
 some (.done (.ret t8))
 else
 some (.next (IntKind.wrap .i64 (t8+1))))
 else
 some (.done (.brk ()))
def mE (s_:(List Source)) (f_:Int) (f_1:(List Source)) (f_2:(List Link)) (f_3:(List aJ)):Option Int:=
 Option.bind (ay (j5 s_ f_ f_1 f_2 f_3) FUEL (0)) fun o=>match o with
 | .ret v=>some v
 | .brk _=>
 some (-1)
def iw (s_:(List Source)) (f_:Int) (f_1:(List Source)) (f_2:(List Link)) (f_3:(List aJ)):Option Bool:=
 (mE s_ f_ f_1 f_2 f_3).bind fun r_=>
 some (decide (0≤r_))
def qY (l:(List Source)) (most:Int) (right:Int) (right1:(List Source)) (right2:(List Link)) (right3:(List aJ)):Option Bool:=
 (bif gB [((decide ((l.length:Int)≤most)),true)]then iw l right right1 right2 right3 else some default).bind fun r_=>
 some (bif (decide ((l.length:Int)≤most))then(!r_)else false)
def kK (x:Link):Int→Option (aM Int (Ex Unit Bool)):=
 fun t50=>
 bif (decide (t50<(x.trip.length:Int)))then
 bW ((0:Int)≤t50∧t50<(x.trip.length:Int)) (
 (bn ((at' x.trip t50.toNat).amps) 1 1000000).bind fun r_5=>
 (bif gB [((!r_5),false)]then bn ((at' x.trip t50.toNat).millis) 1 100000 else some default).bind fun r_6=>
 bW ((gB [((decide (0<t50)),true),((bif (!r_5)then true else(!r_6)),false)]=true→(0:Int)≤(IntKind.wrap .i64 (t50 - 1))∧(IntKind.wrap .i64 (t50 - 1))<(x.trip.length:Int))∧(gB [((decide (((at' x.trip t50.toNat).amps)≤((at' x.trip ((IntKind.wrap .i64 (t50 - 1)).toNat)).amps))),false),((decide (0<t50)),true),((bif (!r_5)then true else(!r_6)),false)]=true→(0:Int)≤(IntKind.wrap .i64 (t50 - 1))∧(IntKind.wrap .i64 (t50 - 1))<(x.trip.length:Int))) (
 bif (bif (bif (!r_5)then true else(!r_6))then true else(bif (decide (0<t50))then(bif (decide (((at' x.trip t50.toNat).amps)≤((at' x.trip ((IntKind.wrap .i64 (t50 - 1)).toNat)).amps)))then true else(decide (((at' x.trip ((IntKind.wrap .i64 (t50 - 1)).toNat)).millis)≤((at' x.trip t50.toNat).millis))))else false))then
 some (.done (.ret false))
 else
 some (.next (IntKind.wrap .i64 (t50+1)))))
 else
 some (.done (.brk ()))
def nX (x:Link) (x1:Int) (x11:(List Source)) (x12:(List Link)) (x13:(List aJ)):Option Bool:=
 (bn x.a 0 (IntKind.wrap .i64 (x1 - 1))).bind fun r_=>
 (bif gB [((!r_),false)]then bn x.b 0 (IntKind.wrap .i64 (x1 - 1))else some default).bind fun r_1=>
 (bif gB [((bif (bif (!r_)then true else(!r_1))then true else(decide (x.a=x.b))),false)]then bn x.kind 1 3 else some default).bind fun r_2=>
 (bif gB [((bif (bif (bif (!r_)then true else(!r_1))then true else(decide (x.a=x.b)))then true else(!r_2)),false)]then bn x.most 1 100000 else some default).bind fun r_3=>
 (bif gB [((bif (bif (bif (bif (!r_)then true else(!r_1))then true else(decide (x.a=x.b)))then true else(!r_2))then true else(!r_3)),false)]then bn x.bK 10 100000 else some default).bind fun r_4=>
 bif (bif (bif (bif (bif (bif (!r_)then true else(!r_1))then true else(decide (x.a=x.b)))then true else(!r_2))then true else(!r_3))then true else(!r_4))then
 some false
 else
 Option.bind (ay (kK x) FUEL (0)) fun o=>match o with
 | .ret v=>some v
 | .brk _=>
 some (bif (decide ((x.trip.length:Int)≤6))then(bif (decide ((x.trip.length:Int)=0))then true else(decide (x.kind=3)))else false)
def nH (x:Link) (x1:Int) (x11:(List Source)) (x12:(List Link)) (x13:(List aJ)):Option Bool:=
 (nX x x1 x11 x12 x13).bind fun r_=>
 some (!r_)
def iK (s_:(List Link)) (f_:Int) (f_1:(List Source)) (f_2:(List Link)) (f_3:(List aJ)):Int→Option (aM Int (Ex Unit Int)):=
 fun t8=>
 bif (decide (t8<(s_.length:Int)))then
 (nH (at' s_ t8.toNat) f_ f_1 f_2 f_3).bind fun r_=>
 bW ((0:Int)≤t8∧t8<(s_.length:Int)) (
 bif r_ then
 some (.done (.ret t8))
 else
 some (.next (IntKind.wrap .i64 (t8+1))))
 else
 some (.done (.brk ()))
def jZ (s_:(List Link)) (f_:Int) (f_1:(List Source)) (f_2:(List Link)) (f_3:(List aJ)):Option Int:=
 Option.bind (ay (iK s_ f_ f_1 f_2 f_3) FUEL (0)) fun o=>match o with
 | .ret v=>some v
 | .brk _=>
 some (-1)
def fK (s_:(List Link)) (f_:Int) (f_1:(List Source)) (f_2:(List Link)) (f_3:(List aJ)):Option Bool:=
 (jZ s_ f_ f_1 f_2 f_3).bind fun r_=>
 some (decide (0≤r_))
def ol (l:(List Link)) (most:Int) (right:Int) (right1:(List Source)) (right2:(List Link)) (right3:(List aJ)):Option Bool:=
 (bif gB [((decide ((l.length:Int)≤most)),true)]then fK l right right1 right2 right3 else some default).bind fun r_=>
 some (bif (decide ((l.length:Int)≤most))then(!r_)else false)
def pQ (x:aJ):Option Int:=
 bif (decide (x.feeds.e1=(-1)))then
 some 1
 else
 some 2
def nV (x:aJ) (x1:Int) (x11:(List Source)) (x12:(List Link)) (x13:(List aJ)):Option Bool:=
 (bn x.feeds.e0 0 (IntKind.wrap .i64 (x1 - 1))).bind fun r_=>
 (bif gB [(r_,true)]then bn x.feeds.e1 (-1) (IntKind.wrap .i64 (x1 - 1))else some default).bind fun r_1=>
 (bif gB [((bif (bif r_ then r_1 else false)then(!decide (x.feeds.e0=x.feeds.e1))else false),true)]then bn x.power 1 100000 else some default).bind fun r_2=>
 (bif gB [((bif (bif (bif r_ then r_1 else false)then(!decide (x.feeds.e0=x.feeds.e1))else false)then r_2 else false),true)]then pQ x else some default).bind fun r_3=>
 (bif gB [((bif (bif (bif r_ then r_1 else false)then(!decide (x.feeds.e0=x.feeds.e1))else false)then r_2 else false),true)]then bn x.paths 0 r_3 else some default).bind fun r_4=>
 some (bif (bif (bif (bif r_ then r_1 else false)then(!decide (x.feeds.e0=x.feeds.e1))else false)then r_2 else false)then r_4 else false)
def nN (x:aJ) (x1:Int) (x11:(List Source)) (x12:(List Link)) (x13:(List aJ)):Option Bool:=
 (nV x x1 x11 x12 x13).bind fun r_=>
 some (!r_)
def iM (s_:(List aJ)) (f_:Int) (f_1:(List Source)) (f_2:(List Link)) (f_3:(List aJ)):Int→Option (aM Int (Ex Unit Int)):=
 fun t8=>
 bif (decide (t8<(s_.length:Int)))then
 (nN (⟨((at' s_ t8.toNat).feeds),(at' s_ t8.toNat).power,(at' s_ t8.toNat).paths⟩:aJ) f_ f_1 f_2 f_3).bind fun r_=>
 bW ((0:Int)≤t8∧t8<(s_.length:Int)) (
 bif r_ then
 some (.done (.ret t8))
 else
 some (.next (IntKind.wrap .i64 (t8+1))))
 else
 some (.done (.brk ()))
def jY (s_:(List aJ)) (f_:Int) (f_1:(List Source)) (f_2:(List Link)) (f_3:(List aJ)):Option Int:=
 Option.bind (ay (iM s_ f_ f_1 f_2 f_3) FUEL (0)) fun o=>match o with
 | .ret v=>some v
 | .brk _=>
 some (-1)
def fO (s_:(List aJ)) (f_:Int) (f_1:(List Source)) (f_2:(List Link)) (f_3:(List aJ)):Option Bool:=
 (jY s_ f_ f_1 f_2 f_3).bind fun r_=>
 some (decide (0≤r_))
def oq (l:(List aJ)) (most:Int) (right:Int) (right1:(List Source)) (right2:(List Link)) (right3:(List aJ)):Option Bool:=
 (bif gB [((decide ((l.length:Int)≤most)),true)]then fO l right right1 right2 right3 else some default).bind fun r_=>
 some (bif (decide ((l.length:Int)≤most))then(!r_)else false)
def nk (p:ah):Option Int:=
 (bn p.buses 1 24).bind fun r_=>
 bif (!r_)then
 some 10
 else
 (q8 p).bind fun r_1=>
 (qY p.sources 8 r_1.1 r_1.2.1 r_1.2.2.1 r_1.2.2.2).bind fun r_2=>
 bif (!r_2)then
 some 11
 else
 (wN p).bind fun r_3=>
 (ol p.links 40 r_3.1 r_3.2.1 r_3.2.2.1 r_3.2.2.2).bind fun r_4=>
 bif (!r_4)then
 some 12
 else
 (wP p).bind fun r_5=>
 (oq p.racks 24 r_5.1 r_5.2.1 r_5.2.2.1 r_5.2.2.2).bind fun r_6=>
 bif (!r_6)then
 some 13
 else
 some 0
def iq (p:ah) (s_:State):Int→Option (aM Int (Ex Unit Int)):=
 fun t55=>
 bif (decide (t55<([(⟨s_.closed,(p.links.length:Int)⟩:dX),(⟨s_.locked,(p.links.length:Int)⟩:dX),(⟨s_.badLink,(p.links.length:Int)⟩:dX),(⟨s_.on_,(p.sources.length:Int)⟩:dX),(⟨s_.badSource,(p.sources.length:Int)⟩:dX),(⟨s_.earthed,p.buses⟩:dX),(⟨s_.badBus,p.buses⟩:dX)].length:Int)))then
 bW ((0:Int)≤t55∧t55<([(⟨s_.closed,(p.links.length:Int)⟩:dX),(⟨s_.locked,(p.links.length:Int)⟩:dX),(⟨s_.badLink,(p.links.length:Int)⟩:dX),(⟨s_.on_,(p.sources.length:Int)⟩:dX),(⟨s_.badSource,(p.sources.length:Int)⟩:dX),(⟨s_.earthed,p.buses⟩:dX),(⟨s_.badBus,p.buses⟩:dX)].length:Int)) (
 bif (!decide ((((at' [(⟨s_.closed,(p.links.length:Int)⟩:dX),(⟨s_.locked,(p.links.length:Int)⟩:dX),(⟨s_.badLink,(p.links.length:Int)⟩:dX),(⟨s_.on_,(p.sources.length:Int)⟩:dX),(⟨s_.badSource,(p.sources.length:Int)⟩:dX),(⟨s_.earthed,p.buses⟩:dX),(⟨s_.badBus,p.buses⟩:dX)] t55.toNat).l).length:Int)=((at' [(⟨s_.closed,(p.links.length:Int)⟩:dX),(⟨s_.locked,(p.links.length:Int)⟩:dX),(⟨s_.badLink,(p.links.length:Int)⟩:dX),(⟨s_.on_,(p.sources.length:Int)⟩:dX),(⟨s_.badSource,(p.sources.length:Int)⟩:dX),(⟨s_.earthed,p.buses⟩:dX),(⟨s_.badBus,p.buses⟩:dX)] t55.toNat).n)))then
 some (.done (.ret 9))
 else
 some (.next (IntKind.wrap .i64 (t55+1))))
 else
 some (.done (.brk ()))
def iA (p:ah) (s_:State):Int→Option (aM Int (Ex Unit Int)):=
 fun t69=>
 bif (decide (t69<(p.links.length:Int)))then
 bW ((0:Int)≤t69∧t69<(p.links.length:Int)) (
 bW ((gB [((decide (((at' p.links t69.toNat).kind)=1)),true)]=true→(0:Int)≤t69∧t69<(s_.closed.length:Int))∧(gB [((!(at' s_.closed t69.toNat)),false),((decide (((at' p.links t69.toNat).kind)=1)),true)]=true→(0:Int)≤t69∧t69<(s_.locked.length:Int))) (
 bif (bif (decide (((at' p.links t69.toNat).kind)=1))then(bif (!(at' s_.closed t69.toNat))then true else(at' s_.locked t69.toNat))else false)then
 some (.done (.ret 9))
 else
 some (.next (IntKind.wrap .i64 (t69+1)))))
 else
 some (.done (.brk ()))
def eT (p:ah) (s_:State):Option Int:=
 (nk p).bind fun r_=>
 bif (!decide (r_=0))then
 some r_
 else
 Option.bind (ay (iq p s_) FUEL (0)) fun o=>match o with
 | .ret v=>some v
 | .brk _=>
 Option.bind (ay (iA p s_) FUEL (0)) fun o=>match o with
 | .ret v=>some v
 | .brk _=>
 some 0
def rV (s_:(List Bool)) (s_nn:Bool):Option (List Bool):=
 bif (!s_nn)then
 some ([]:List Bool)
 else
 bW (((([]:List Bool).length+s_.length)*1≤140737488355328)∧(([]:List Bool).length+s_.length≤4611686018427387904)) (
 some (([]:List Bool)++s_))
def bC (s:(List Bool)):Option (List Bool):=rV s true
def oC (s_:State):Option State:=
 (bC s_.closed).bind fun r_=>
 (bC s_.locked).bind fun r_1=>
 (bC s_.badLink).bind fun r_2=>
 (bC s_.on_).bind fun r_3=>
 (bC s_.badSource).bind fun r_4=>
 (bC s_.earthed).bind fun r_5=>
 (bC s_.badBus).bind fun r_6=>
 some (⟨r_,r_1,r_2,r_3,r_4,r_5,r_6⟩:State)
def rq (p:ah) (s_:State) (k:Int):Option Bool:=
 bW (((0:Int)≤k∧k<(s_.on_.length:Int))∧(gB [((at' s_.on_ k.toNat),true)]=true→(0:Int)≤k∧k<(s_.badSource.length:Int))∧(gB [((bif (at' s_.on_ k.toNat)then(!(at' s_.badSource k.toNat))else false),true)]=true→(0:Int)≤k∧k<(p.sources.length:Int))∧(gB [((bif (at' s_.on_ k.toNat)then(!(at' s_.badSource k.toNat))else false),true)]=true→(0:Int)≤(at' p.sources k.toNat).bus∧(at' p.sources k.toNat).bus<(s_.badBus.length:Int))) (
 some (bif (bif (at' s_.on_ k.toNat)then(!(at' s_.badSource k.toNat))else false)then(!(at' s_.badBus (((at' p.sources k.toNat).bus).toNat)))else false))
def mU (p:ah) (s_:State) (i:Int):Option Bool:=
 bW ((0:Int)≤i∧i<(p.links.length:Int)) (
 bW (((0:Int)≤i∧i<(s_.closed.length:Int))∧(gB [((at' s_.closed i.toNat),true)]=true→(0:Int)≤i∧i<(s_.badLink.length:Int))∧(gB [((bif (at' s_.closed i.toNat)then(!(at' s_.badLink i.toNat))else false),true)]=true→(0:Int)≤(at' p.links i.toNat).a∧(at' p.links i.toNat).a<(s_.badBus.length:Int))∧(gB [((bif (bif (at' s_.closed i.toNat)then(!(at' s_.badLink i.toNat))else false)then(!(at' s_.badBus (((at' p.links i.toNat).a).toNat)))else false),true)]=true→(0:Int)≤(at' p.links i.toNat).b∧(at' p.links i.toNat).b<(s_.badBus.length:Int))) (
 some (bif (bif (bif (at' s_.closed i.toNat)then(!(at' s_.badLink i.toNat))else false)then(!(at' s_.badBus (((at' p.links i.toNat).a).toNat)))else false)then(!(at' s_.badBus (((at' p.links i.toNat).b).toNat)))else false)))
def nK (s_:(List Int)) (s_nn:Bool):Option (List Int):=
 bif (!s_nn)then
 some ([]:List Int)
 else
 bW (((([]:List Int).length+s_.length)*8≤140737488355328)∧(([]:List Int).length+s_.length≤4611686018427387904)) (
 some (([]:List Int)++s_))
def jA (s:(List Int)):Option (List Int):=nK s true
def uW (x:Int):Option Bool:=
 some (!decide (x=x))
def qj (x:Int) (y:Int):Option Int:=
 (uW x).bind fun r_=>
 (uW y).bind fun r_1=>
 bif r_ then
 bif r_1 then
 some 0
 else
 some (-1)
 else
 bif r_1 then
 some 1
 else
 bif (decide (x<y))then
 some (-1)
 else
 bif (decide (y<x))then
 some 1
 else
 some 0
def bO (s1:(List Int)) (s2:(List Int)):Int→Option (aM Int (Ex Unit Int)):=
 fun t11=>
 bif (decide (t11<(s1.length:Int)))then
 bW ((0:Int)≤t11∧t11<(s1.length:Int)) (
 bif (decide ((s2.length:Int)≤t11))then
 some (.done (.ret 1))
 else
 bW ((0:Int)≤t11∧t11<(s2.length:Int)) (
 (qj (at' s1 t11.toNat) (at' s2 t11.toNat)).bind fun r_=>
 bif (!decide (r_=0))then
 some (.done (.ret r_))
 else
 some (.next (IntKind.wrap .i64 (t11+1)))))
 else
 some (.done (.brk ()))
def o9 (s1:(List Int)) (s2:(List Int)):Option Int:=
 Option.bind (ay (bO s1 s2) FUEL (0)) fun o=>match o with
 | .ret v=>some v
 | .brk _=>
 bif (decide ((s1.length:Int)<(s2.length:Int)))then
 some (-1)
 else
 some 0
def zf (vals:(List Int)):Int→Option (aM Int (Ex Unit Int)):=
 fun t8=>
 bif (decide (t8<(vals.length:Int)))then
 bW ((0:Int)≤t8∧t8<(vals.length:Int)) (
 bif (!decide ((at' vals t8.toNat)=0))then
 some (.done (.ret (at' vals t8.toNat)))
 else
 some (.next (IntKind.wrap .i64 (t8+1))))
 else
 some (.done (.brk ()))
def Ed (vals:(List Int)):Option Int:=
 Option.bind (ay (zf vals) FUEL (0)) fun o=>match o with
 | .ret v=>some v
 | .brk _=>
 some 0
def jD (a:Way) (b:Way):Option Bool:=
 bif (!b.there)then
 some true
 else
 (o9 a.links b.links).bind fun r_=>
 (Ed [(IntKind.wrap .i64 (a.bK - b.bK)),(IntKind.wrap .i64 ((a.links.length:Int) - (b.links.length:Int))),r_]).bind fun r_1=>
 some (decide (r_1<0))
def jW (p:ah) (t28:Int):((List Way) × Bool × Int)→Option (aM ((List Way) × Bool × Int) (Ex ((List Way) × Bool) (aM ((List Way) × Bool × Int) (Ex ((List Way) × Bool) (aM ((List Way) × Bool) (Ex (List Way) (List Way))))))):=
 fun zz=>match zz with
 |(out4,changed3,t49)=>
 bif (decide (t49<2))then
 bW ((0:Int)≤t49∧t49<((2:Nat):Int)) (
 bW ((0:Int)≤(at' [(⟨(at' p.links t28.toNat).a,(at' p.links t28.toNat).b⟩:bL),(⟨(at' p.links t28.toNat).b,(at' p.links t28.toNat).a⟩:bL)] t49.toNat).e0∧(at' [(⟨(at' p.links t28.toNat).a,(at' p.links t28.toNat).b⟩:bL),(⟨(at' p.links t28.toNat).b,(at' p.links t28.toNat).a⟩:bL)] t49.toNat).e0<(out4.length:Int)) (
 bif (!((at' out4 (((at' [(⟨(at' p.links t28.toNat).a,(at' p.links t28.toNat).b⟩:bL),(⟨(at' p.links t28.toNat).b,(at' p.links t28.toNat).a⟩:bL)] t49.toNat).e0).toNat)).there))then
 some (.next (out4,changed3,(IntKind.wrap .i64 (t49+1))))
 else
 (jA ((at' out4 (((at' [(⟨(at' p.links t28.toNat).a,(at' p.links t28.toNat).b⟩:bL),(⟨(at' p.links t28.toNat).b,(at' p.links t28.toNat).a⟩:bL)] t49.toNat).e0).toNat)).links)).bind fun r_1=>
 bW (((r_1.length+[t28].length)*8≤140737488355328)∧(r_1.length+[t28].length≤4611686018427387904)) (
 (jD (⟨true,(IntKind.wrap .i64 (((at' out4 (((at' [(⟨(at' p.links t28.toNat).a,(at' p.links t28.toNat).b⟩:bL),(⟨(at' p.links t28.toNat).b,(at' p.links t28.toNat).a⟩:bL)] t49.toNat).e0).toNat)).bK)+((at' p.links t28.toNat).bK))),(r_1++[t28])⟩:Way) (at' out4 (((at' [(⟨(at' p.links t28.toNat).a,(at' p.links t28.toNat).b⟩:bL),(⟨(at' p.links t28.toNat).b,(at' p.links t28.toNat).a⟩:bL)] t49.toNat).e1).toNat))).bind fun r_2=>
 bW ((0:Int)≤(at' [(⟨(at' p.links t28.toNat).a,(at' p.links t28.toNat).b⟩:bL),(⟨(at' p.links t28.toNat).b,(at' p.links t28.toNat).a⟩:bL)] t49.toNat).e1∧(at' [(⟨(at' p.links t28.toNat).a,(at' p.links t28.toNat).b⟩:bL),(⟨(at' p.links t28.toNat).b,(at' p.links t28.toNat).a⟩:bL)] t49.toNat).e1<(out4.length:Int)) (
 bif r_2 then
 bW ((0:Int)≤(at' [(⟨(at' p.links t28.toNat).a,(at' p.links t28.toNat).b⟩:bL),(⟨(at' p.links t28.toNat).b,(at' p.links t28.toNat).a⟩:bL)] t49.toNat).e1∧(at' [(⟨(at' p.links t28.toNat).a,(at' p.links t28.toNat).b⟩:bL),(⟨(at' p.links t28.toNat).b,(at' p.links t28.toNat).a⟩:bL)] t49.toNat).e1<(out4.length:Int)) (
 some (.next ((out4.set (((at' [(⟨(at' p.links t28.toNat).a,(at' p.links t28.toNat).b⟩:bL),(⟨(at' p.links t28.toNat).b,(at' p.links t28.toNat).a⟩:bL)] t49.toNat).e1).toNat) (⟨true,(IntKind.wrap .i64 (((at' out4 (((at' [(⟨(at' p.links t28.toNat).a,(at' p.links t28.toNat).b⟩:bL),(⟨(at' p.links t28.toNat).b,(at' p.links t28.toNat).a⟩:bL)] t49.toNat).e0).toNat)).bK)+((at' p.links t28.toNat).bK))),(r_1++[t28])⟩:Way)),true,(IntKind.wrap .i64 (t49+1)))))
 else
 some (.next (out4,changed3,(IntKind.wrap .i64 (t49+1))))))))
 else
 some (.done (.brk (out4,changed3)))
def om (p:ah) (s_:State):((List Way) × Bool × Int)→Option (aM ((List Way) × Bool × Int) (Ex ((List Way) × Bool) (aM ((List Way) × Bool) (Ex (List Way) (List Way))))):=
 fun zz=>match zz with
 |(out2,changed1,t28)=>
 bif (decide (t28<(p.links.length:Int)))then
 bW ((0:Int)≤t28∧t28<(p.links.length:Int)) (
 (mU p s_ t28).bind fun r_=>
 bif (!r_)then
 some (.next (out2,changed1,(IntKind.wrap .i64 (t28+1))))
 else
 Option.bind (ay (jW p t28) FUEL (out2,changed1,0)) fun o=>match o with
 | .ret v=>some v
 | .brk (out5,changed4)=>
 some (.next (out5,changed4,(IntKind.wrap .i64 (t28+1)))))
 else
 some (.done (.brk (out2,changed1)))
def lC (p:ah) (s_:State):((List Way) × Bool)→Option (aM ((List Way) × Bool) (Ex (List Way) (List Way))):=
 fun zz=>match zz with
 |(out,changed)=>
 bif changed then
 Option.bind (ay (om p s_) FUEL (out,false,0)) fun o=>match o with
 | .ret v=>some v
 | .brk (out3,changed2)=>
 some (.next (out3,changed2))
 else
 some (.done (.brk out))
def nZ (p:ah) (s_:State) (bus:Int):Option (List Way):=
 bW (((0:Int)≤p.buses)∧((40:Int)*p.buses≤281474976710656)∧((p.buses:Int)≤9223372036854775807)) (
 bW ((0:Int)≤bus∧bus<((List.replicate p.buses.toNat ((⟨false,0,([]:List Int)⟩:Way):Way)).length:Int)) (
 Option.bind (ay (lC p s_) FUEL (((List.replicate p.buses.toNat ((⟨false,0,([]:List Int)⟩:Way):Way)).set bus.toNat (⟨true,(at' (List.replicate p.buses.toNat ((⟨false,0,([]:List Int)⟩:Way):Way)) bus.toNat).bK,(at' (List.replicate p.buses.toNat ((⟨false,0,([]:List Int)⟩:Way):Way)) bus.toNat).links⟩:Way)),true)) fun o=>match o with
 | .ret v=>some v
 | .brk out1=>
 some out1))
def lG (p:ah) (s_:State) (bus:Int):((List Short) × Int)→Option (aM ((List Short) × Int) (Ex (List Short) ((List Short) × Int))):=
 fun zz=>match zz with
 |(out,t31)=>
 bif (decide (t31<(p.sources.length:Int)))then
 bW ((0:Int)≤t31∧t31<(p.sources.length:Int)) (
 (bif gB [((at' s_.badBus bus.toNat),false)]then rq p s_ t31 else some default).bind fun r_1=>
 bW ((0:Int)≤bus∧bus<(s_.badBus.length:Int)) (
 bif (bif (at' s_.badBus bus.toNat)then true else(!r_1))then
 some (.next (out,(IntKind.wrap .i64 (t31+1))))
 else
 (nZ p s_ ((at' p.sources t31.toNat).bus)).bind fun r_2=>
 bW ((0:Int)≤bus∧bus<(r_2.length:Int)) (
 bif ((at' r_2 bus.toNat).there)then
 bW (((IntKind.wrap .i64 (((at' p.sources t31.toNat).bK)+((at' r_2 bus.toNat).bK)))≠(0:Int))∧((out.length+[(⟨t31,(IntKind.wrap .i64 (((at' p.sources t31.toNat).bK)+((at' r_2 bus.toNat).bK))),(IntKind.wrap .i64 (Int.tdiv (IntKind.wrap .i64 ((IntKind.wrap .i64 ((400000:Int)+(IntKind.wrap .i64 (((at' p.sources t31.toNat).bK)+((at' r_2 bus.toNat).bK))))) - 1)) (IntKind.wrap .i64 (((at' p.sources t31.toNat).bK)+((at' r_2 bus.toNat).bK))))),(at' r_2 bus.toNat).links⟩:Short)].length)*48≤140737488355328)∧(out.length+[(⟨t31,(IntKind.wrap .i64 (((at' p.sources t31.toNat).bK)+((at' r_2 bus.toNat).bK))),(IntKind.wrap .i64 (Int.tdiv (IntKind.wrap .i64 ((IntKind.wrap .i64 ((400000:Int)+(IntKind.wrap .i64 (((at' p.sources t31.toNat).bK)+((at' r_2 bus.toNat).bK))))) - 1)) (IntKind.wrap .i64 (((at' p.sources t31.toNat).bK)+((at' r_2 bus.toNat).bK))))),(at' r_2 bus.toNat).links⟩:Short)].length≤4611686018427387904)) (
 some (.next ((out++[(⟨t31,(IntKind.wrap .i64 (((at' p.sources t31.toNat).bK)+((at' r_2 bus.toNat).bK))),(IntKind.wrap .i64 (Int.tdiv (IntKind.wrap .i64 ((IntKind.wrap .i64 ((400000:Int)+(IntKind.wrap .i64 (((at' p.sources t31.toNat).bK)+((at' r_2 bus.toNat).bK))))) - 1)) (IntKind.wrap .i64 (((at' p.sources t31.toNat).bK)+((at' r_2 bus.toNat).bK))))),(at' r_2 bus.toNat).links⟩:Short)]),(IntKind.wrap .i64 (t31+1)))))
 else
 some (.next (out,(IntKind.wrap .i64 (t31+1)))))))
 else
 some (.done (.brk out))
def pM (p:ah) (s_:State) (bus:Int):Option ((List Short) × Int):=
 (eT p s_).bind fun r_=>
 bif (!decide (r_=0))then
 some (([]:List Short),r_)
 else
 bif (bif (decide (bus<0))then true else(decide (p.buses≤bus)))then
 some (([]:List Short),1)
 else
 Option.bind (ay (lG p s_ bus) FUEL (([]:List Short),0)) fun o=>match o with
 | .ret v=>some v
 | .brk out1=>
 some (out1,0)
def nJ (s_:(List Int)) (v_:Int):Int→Option (aM Int (Ex Unit Int)):=
 fun t8=>
 bif (decide (t8<(s_.length:Int)))then
 bW ((0:Int)≤t8∧t8<(s_.length:Int)) (
 bif (decide (v_=(at' s_ t8.toNat)))then
 some (.done (.ret t8))
 else
 some (.next (IntKind.wrap .i64 (t8+1))))
 else
 some (.done (.brk ()))
def sJ (s_:(List Int)) (v_:Int):Option Int:=
 Option.bind (ay (nJ s_ v_) FUEL (0)) fun o=>match o with
 | .ret v=>some v
 | .brk _=>
 some (-1)
def kN (s_:(List Int)) (v_:Int):Option Bool:=
 (sJ s_ v_).bind fun r_=>
 some (decide (0≤r_))
def oN (i:Int) (o_:(List Int)):Option Bool:=
 some (bif (decide (i<0))then true else(decide ((o_.length:Int)≤i)))
def iL (s_:(List Int)) (o_:(List Int)):Int→Option (aM Int (Ex Unit Int)):=
 fun t8=>
 bif (decide (t8<(s_.length:Int)))then
 (oN (at' s_ t8.toNat) o_).bind fun r_=>
 bW ((0:Int)≤t8∧t8<(s_.length:Int)) (
 bif r_ then
 some (.done (.ret t8))
 else
 some (.next (IntKind.wrap .i64 (t8+1))))
 else
 some (.done (.brk ()))
def j3 (s_:(List Int)) (o_:(List Int)):Option Int:=
 Option.bind (ay (iL s_ o_) FUEL (0)) fun o=>match o with
 | .ret v=>some v
 | .brk _=>
 some (-1)
def gD (s_:(List Int)) (o_:(List Int)):Option Bool:=
 (j3 s_ o_).bind fun r_=>
 some (decide (0≤r_))
def ja (l:(List Short)) (out0:(List Int)) (t25:Int):((List Int) × Int)→Option (aM ((List Int) × Int) (Ex (List Int) (aM ((List Int) × Int) (Ex (List Int) ((List Int) × Bool × Int))))):=
 fun zz=>match zz with
 |(out02,t45)=>
 bif (decide (t45<(out0.length:Int)))then
 (kN ((at' l t25.toNat).links) t45).bind fun r_2=>
 bif r_2 then
 bW ((0:Int)≤t45∧t45<(out02.length:Int)) (
 some (.next ((out02.set t45.toNat (IntKind.wrap .i64 ((at' out02 t45.toNat)+((at' l t25.toNat).amps)))),(IntKind.wrap .i64 (t45+1)))))
 else
 some (.next (out02,(IntKind.wrap .i64 (t45+1))))
 else
 some (.done (.brk out02))
def fB (l:(List Short)):((List Int) × Int)→Option (aM ((List Int) × Int) (Ex (List Int) ((List Int) × Bool × Int))):=
 fun zz=>match zz with
 |(out0,t25)=>
 bif (decide (t25<(l.length:Int)))then
 bW ((0:Int)≤t25∧t25<(l.length:Int)) (
 (bif gB [((bif (decide (((at' l t25.toNat).amps)<0))then true else(decide (1000000<((at' l t25.toNat).amps)))),false)]then gD ((at' l t25.toNat).links) out0 else some default).bind fun r_1=>
 bif (bif (bif (decide (((at' l t25.toNat).amps)<0))then true else(decide (1000000<((at' l t25.toNat).amps))))then true else r_1)then
 some (.done (.ret (([]:List Int),false,1)))
 else
 Option.bind (ay (ja l out0 t25) FUEL (out0,0)) fun o=>match o with
 | .ret v=>some v
 | .brk out03=>
 some (.next (out03,(IntKind.wrap .i64 (t25+1)))))
 else
 some (.done (.brk out0))
def lV (p:ah) (l:(List Short)):Option ((List Int) × Bool × Int):=
 (nk p).bind fun r_=>
 bif (!decide (r_=0))then
 some (([]:List Int),false,r_)
 else
 bif (decide (8<(l.length:Int)))then
 some (([]:List Int),false,1)
 else
 bW (((0:Int)≤(p.links.length:Int))∧((8:Int)*(p.links.length:Int)≤281474976710656)∧(((p.links.length:Int):Int)≤9223372036854775807)) (
 Option.bind (ay (fB l) FUEL ((List.replicate ((p.links.length:Int).toNat) (0:Int)),0)) fun o=>match o with
 | .ret v=>some v
 | .brk out01=>
 some (out01,true,0))
def gF (r_:((List Short) × Int)):(Int × Int)→Option (aM (Int × Int) (Ex Int (Machine × Bool))):=
 fun zz=>match zz with
 |(o17,t41)=>
 bif (decide (t41<(r_.1.length:Int)))then
 bW ((0:Int)≤t41∧t41<(r_.1.length:Int)) (
 some (.next ((IntKind.wrap .i64 (o17+((at' r_.1 t41.toNat).amps))),(IntKind.wrap .i64 (t41+1)))))
 else
 some (.done (.brk o17))
def eF (machine:Machine) (machine_nn:Bool) (r_1:((List Int) × Bool × Int)):((List (Int × Int)) × Int)→Option (aM ((List (Int × Int)) × Int) (Ex (List (Int × Int)) (Machine × Bool))):=
 fun zz=>match zz with
 |(o18,t57)=>
 bif (decide (t57<(r_1.1.length:Int)))then
 bW ((0:Int)≤t57∧t57<(r_1.1.length:Int)) (
 bW (gB [((!machine_nn),false)]=true→(0:Int)≤t57∧t57<(machine.amps.length:Int)) (
 bif (bif (!machine_nn)then true else(!decide ((at' machine.amps t57.toNat)=(at' r_1.1 t57.toNat))))then
 some (.next ((jH gI t57 machine.now o18),(IntKind.wrap .i64 (t57+1))))
 else
 some (.next (o18,(IntKind.wrap .i64 (t57+1))))))
 else
 some (.done (.brk o18))
def dL (machine:Machine) (machine_nn:Bool):Option (Machine × Bool):=
 (pM machine.p machine.clearing.state machine.bus).bind fun r_=>
 (lV machine.p r_.1).bind fun r_1=>
 Option.bind (ay (gF r_) FUEL (0,0)) fun o=>match o with
 | .ret v=>some v
 | .brk o171=>
 Option.bind (ay (eF machine machine_nn r_1) FUEL (machine.since,0)) fun o=>match o with
 | .ret v=>some v
 | .brk o181=>
 some ((⟨machine.clearing,machine.p,machine.bus,r_1.1,o171,o181,machine.now⟩:Machine),r_1.2.1)
def ig (machine:Machine) (machine_nn:Bool):Option Unit:=
 some ()
def dU (x:Link) (amps:Int):Int→Option (aM Int (Ex Unit (Int × Bool))):=
 fun i=>
 bif (decide (0≤i))then
 bW ((0:Int)≤i∧i<(x.trip.length:Int)) (
 bif (decide (((at' x.trip i.toNat).amps)≤amps))then
 bW ((0:Int)≤i∧i<(x.trip.length:Int)) (
 some (.done (.ret ((at' x.trip i.toNat).millis,true))))
 else
 some (.next (IntKind.wrap .i64 (i - 1))))
 else
 some (.done (.brk ()))
def kU (x:Link) (amps:Int):Option (Int × Bool):=
 Option.bind (ay (dU x amps) FUEL (IntKind.wrap .i64 ((x.trip.length:Int) - 1))) fun o=>match o with
 | .ret v=>some v
 | .brk _=>
 some (0,false)
def eG (x13:Int) (x14:Int) (int:Int):Option Int:=
 bif (bif (decide (int<0))then true else(decide (x14<int)))then
 some x14
 else
 some int
def eU (machine:Machine):(Int × Int)→Option (aM (Int × Int) (Ex Int Int)):=
 fun zz=>match zz with
 |(o30,t13)=>
 bif (decide (t13<(machine.p.links.length:Int)))then
 bW ((0:Int)≤t13∧t13<(machine.p.links.length:Int)) (
 bW ((gB [((!decide (((at' machine.p.links t13.toNat).kind)=3)),false)]=true→(0:Int)≤t13∧t13<(machine.clearing.state.closed.length:Int))∧(gB [((bif (!decide (((at' machine.p.links t13.toNat).kind)=3))then true else(!(at' machine.clearing.state.closed t13.toNat))),false)]=true→(0:Int)≤t13∧t13<(machine.clearing.state.badLink.length:Int))) (
 bif (bif (bif (!decide (((at' machine.p.links t13.toNat).kind)=3))then true else(!(at' machine.clearing.state.closed t13.toNat)))then true else(at' machine.clearing.state.badLink t13.toNat))then
 some (.next (o30,(IntKind.wrap .i64 (t13+1))))
 else
 (kU (at' machine.p.links t13.toNat) (at' machine.amps t13.toNat)).bind fun r_=>
 bW ((0:Int)≤t13∧t13<(machine.amps.length:Int)) (
 bif r_.2 then
 (eG t13 (IntKind.wrap .i64 (((bQ gI t13 machine.since).getD 0)+r_.1)) o30).bind fun r_1=>
 bif (!true)then
 some (.done (.ret r_1))
 else
 some (.next (r_1,(IntKind.wrap .i64 (t13+1))))
 else
 some (.next (o30,(IntKind.wrap .i64 (t13+1)))))))
 else
 some (.done (.brk o30))
def gy (int:Int) (machine:Machine) (machine_nn:Bool):Option Int:=
 Option.bind (ay (eU machine) FUEL (int,0)) fun o=>match o with
 | .ret v=>some v
 | .brk o301=>
 some o301
def eO (x33:Int) (x34:Int) (int:Int) (o_:(List Int)):Option (List Int):=
 bif (decide (x34≤int))then
 bW (((o_.length+[x33].length)*8≤140737488355328)∧(o_.length+[x33].length≤4611686018427387904)) (
 some (o_++[x33]))
 else
 some o_
def dM (int:Int) (machine:Machine):((List Int) × Int)→Option (aM ((List Int) × Int) (Ex (List Int) (List Int))):=
 fun zz=>match zz with
 |(o60,t13)=>
 bif (decide (t13<(machine.p.links.length:Int)))then
 bW ((0:Int)≤t13∧t13<(machine.p.links.length:Int)) (
 bW ((gB [((!decide (((at' machine.p.links t13.toNat).kind)=3)),false)]=true→(0:Int)≤t13∧t13<(machine.clearing.state.closed.length:Int))∧(gB [((bif (!decide (((at' machine.p.links t13.toNat).kind)=3))then true else(!(at' machine.clearing.state.closed t13.toNat))),false)]=true→(0:Int)≤t13∧t13<(machine.clearing.state.badLink.length:Int))) (
 bif (bif (bif (!decide (((at' machine.p.links t13.toNat).kind)=3))then true else(!(at' machine.clearing.state.closed t13.toNat)))then true else(at' machine.clearing.state.badLink t13.toNat))then
 some (.next (o60,(IntKind.wrap .i64 (t13+1))))
 else
 (kU (at' machine.p.links t13.toNat) (at' machine.amps t13.toNat)).bind fun r_=>
 bW ((0:Int)≤t13∧t13<(machine.amps.length:Int)) (
 bif r_.2 then
 (eO t13 (IntKind.wrap .i64 (((bQ gI t13 machine.since).getD 0)+r_.1)) int o60).bind fun r_1=>
 bif (!true)then
 some (.done (.ret r_1))
 else
 some (.next (r_1,(IntKind.wrap .i64 (t13+1))))
 else
 some (.next (o60,(IntKind.wrap .i64 (t13+1)))))))
 else
 some (.done (.brk o60))
def eP (int:Int) (o_:(List Int)) (machine:Machine) (machine_nn:Bool):Option (List Int):=
 Option.bind (ay (dM int machine) FUEL (o_,0)) fun o=>match o with
 | .ret v=>some v
 | .brk o601=>
 some o601
def dW (machine:Machine) (r_1:Int) (r_3:(List Int)):((List Event) × (List Bool) × Int)→Option (aM ((List Event) × (List Bool) × Int) (Ex ((List Event) × (List Bool)) (Bool × Machine × Bool))):=
 fun zz=>match zz with
 |(o0,o4,t92)=>
 bif (decide (t92<(r_3.length:Int)))then
 bW ((0:Int)≤t92∧t92<(r_3.length:Int)) (
 bW ((0:Int)≤(at' r_3 t92.toNat)∧(at' r_3 t92.toNat)<(o4.length:Int)) (
 bW (((o0.length+[(⟨(if r_1<machine.now then machine.now else r_1),(at' r_3 t92.toNat)⟩:Event)].length)*16≤140737488355328)∧(o0.length+[(⟨(if r_1<machine.now then machine.now else r_1),(at' r_3 t92.toNat)⟩:Event)].length≤4611686018427387904)) (
 some (.next ((o0++[(⟨(if r_1<machine.now then machine.now else r_1),(at' r_3 t92.toNat)⟩:Event)]),(o4.set ((at' r_3 t92.toNat).toNat) false),(IntKind.wrap .i64 (t92+1)))))))
 else
 some (.done (.brk (o0,o4)))
def dZ (machine:Machine) (machine_nn:Bool):Option (Bool × Machine × Bool):=
 (ig machine machine_nn).bind fun r_=>
 (gy (-1) machine machine_nn).bind fun r_1=>
 bif (decide (r_1<0))then
 some (false,machine,machine_nn)
 else
 (ig machine machine_nn).bind fun r_2=>
 (eP (if r_1<machine.now then machine.now else r_1) ([]:List Int) machine machine_nn).bind fun r_3=>
 bW (1000≠(0:Int)) (
 (bC machine.clearing.state.closed).bind fun r_4=>
 Option.bind (ay (dW machine r_1 r_3) FUEL (machine.clearing.events,r_4,0)) fun o=>match o with
 | .ret v=>some v
 | .brk (o01,o41)=>
 some (true,(⟨(⟨o01,machine.clearing.cleared,(if r_1<machine.now then machine.now else r_1),(IntKind.wrap .i64 (machine.clearing.energy+(IntKind.wrap .i64 ((IntKind.wrap .i64 (Int.tdiv (IntKind.wrap .i64 ((IntKind.wrap .i64 (machine.total*machine.total))+999)) 1000))*(IntKind.wrap .i64 ((if r_1<machine.now then machine.now else r_1) - machine.now)))))),(⟨o41,machine.clearing.state.locked,machine.clearing.state.badLink,machine.clearing.state.on_,machine.clearing.state.badSource,machine.clearing.state.earthed,machine.clearing.state.badBus⟩:State)⟩:bg),machine.p,machine.bus,machine.amps,machine.total,machine.since,(if r_1<machine.now then machine.now else r_1)⟩:Machine),machine_nn))
def dO (machine:Machine):((List Event) × Bool × Int × Int × (List Bool) × Int × (List Source) × (List Link) × (List aJ) × Int × Bool × (List Int) × Int × (List (Int × Int)) × Int)→Option (aM ((List Event) × Bool × Int × Int × (List Bool) × Int × (List Source) × (List Link) × (List aJ) × Int × Bool × (List Int) × Int × (List (Int × Int)) × Int) (Ex Unit (bg × (List (Int × Int))))):=
 fun zz=>match zz with
 |(o0,o1,o2,o3,o4,o11,o12,o13,o14,o15,o16_nn,o16,o17,o18,o19)=>
 (dL (⟨(⟨o0,o1,o2,o3,(⟨o4,machine.clearing.state.locked,machine.clearing.state.badLink,machine.clearing.state.on_,machine.clearing.state.badSource,machine.clearing.state.earthed,machine.clearing.state.badBus⟩:State)⟩:bg),(⟨o11,o12,o13,o14⟩:ah),o15,o16,o17,o18,o19⟩:Machine) o16_nn).bind fun r_=>
 bif (decide (r_.1.total=0))then
 some (.done (.ret ((⟨o0,true,r_.1.clearing.millis,r_.1.clearing.energy,(⟨o4,machine.clearing.state.locked,machine.clearing.state.badLink,machine.clearing.state.on_,machine.clearing.state.badSource,machine.clearing.state.earthed,machine.clearing.state.badBus⟩:State)⟩:bg),r_.1.since)))
 else
 (dZ (⟨(⟨o0,r_.1.clearing.cleared,r_.1.clearing.millis,r_.1.clearing.energy,(⟨o4,machine.clearing.state.locked,machine.clearing.state.badLink,machine.clearing.state.on_,machine.clearing.state.badSource,machine.clearing.state.earthed,machine.clearing.state.badBus⟩:State)⟩:bg),r_.1.p,r_.1.bus,r_.1.amps,r_.1.total,r_.1.since,r_.1.now⟩:Machine) r_.2).bind fun r_1=>
 bif r_1.1 then
 some (.next (r_1.2.1.clearing.events,r_1.2.1.clearing.cleared,r_1.2.1.clearing.millis,r_1.2.1.clearing.energy,r_1.2.1.clearing.state.closed,r_1.2.1.p.buses,r_1.2.1.p.sources,r_1.2.1.p.links,r_1.2.1.p.racks,r_1.2.1.bus,r_1.2.2,r_1.2.1.amps,r_1.2.1.total,r_.1.since,r_1.2.1.now))
 else
 some (.done (.ret ((⟨r_1.2.1.clearing.events,r_1.2.1.clearing.cleared,r_1.2.1.clearing.millis,r_1.2.1.clearing.energy,(⟨r_1.2.1.clearing.state.closed,machine.clearing.state.locked,machine.clearing.state.badLink,machine.clearing.state.on_,machine.clearing.state.badSource,machine.clearing.state.earthed,machine.clearing.state.badBus⟩:State)⟩:bg),r_.1.since)))
def jk (machine:Machine) (machine_nn:Bool):Option (bg × (List (Int × Int))):=
 Option.bind (ay (dO machine) FUEL (machine.clearing.events,machine.clearing.cleared,machine.clearing.millis,machine.clearing.energy,machine.clearing.state.closed,machine.p.buses,machine.p.sources,machine.p.links,machine.p.racks,machine.bus,machine_nn,machine.amps,machine.total,machine.since,machine.now)) fun o=>match o with
 | .ret v=>some v
 | .brk _=>none
def dG (p:ah) (s_:State) (bus:Int):Option (bg × Int):=
 (eT p s_).bind fun r_=>
 bif (!decide (r_=0))then
 some ((⟨([]:List Event),false,0,0,(⟨([]:List Bool),([]:List Bool),([]:List Bool),([]:List Bool),([]:List Bool),([]:List Bool),([]:List Bool)⟩:State)⟩:bg),r_)
 else
 bif (bif (decide (bus<0))then true else(decide (p.buses≤bus)))then
 some ((⟨([]:List Event),false,0,0,(⟨([]:List Bool),([]:List Bool),([]:List Bool),([]:List Bool),([]:List Bool),([]:List Bool),([]:List Bool)⟩:State)⟩:bg),1)
 else
 (oC s_).bind fun r_1=>
 (jk (⟨(⟨([]:List Event),false,0,0,r_1⟩:bg),p,bus,([]:List Int),0,([]:(List (Int × Int))),0⟩:Machine) false).bind fun r_2=>
 some (r_2.1,0)
def wS (p:ah) (i:Int) (bus:Int):Option Bool:=
 bW (((0:Int)≤i∧i<(p.links.length:Int))∧(gB [((decide (((at' p.links i.toNat).a)=bus)),false)]=true→(0:Int)≤i∧i<(p.links.length:Int))) (
 some (bif (decide (((at' p.links i.toNat).a)=bus))then true else(decide (((at' p.links i.toNat).b)=bus))))
def kZ (x:Event) (x1:Int) (x11:(List Source)) (x12:(List Link)) (x13:(List aJ)) (x2:Int):Option Bool:=
 (wS (⟨x1,x11,x12,x13⟩:ah) x.link x2).bind fun r_=>
 some (!r_)
def fI (s_:(List Event)) (f_:Int) (f_1:(List Source)) (f_2:(List Link)) (f_3:(List aJ)) (f_4:Int):Int→Option (aM Int (Ex Unit Int)):=
 fun t8=>
 bif (decide (t8<(s_.length:Int)))then
 (kZ (at' s_ t8.toNat) f_ f_1 f_2 f_3 f_4).bind fun r_=>
 bW ((0:Int)≤t8∧t8<(s_.length:Int)) (
 bif r_ then
 some (.done (.ret t8))
 else
 some (.next (IntKind.wrap .i64 (t8+1))))
 else
 some (.done (.brk ()))
def j6 (s_:(List Event)) (f_:Int) (f_1:(List Source)) (f_2:(List Link)) (f_3:(List aJ)) (f_4:Int):Option Int:=
 Option.bind (ay (fI s_ f_ f_1 f_2 f_3 f_4) FUEL (0)) fun o=>match o with
 | .ret v=>some v
 | .brk _=>
 some (-1)
def iO (s_:(List Event)) (f_:Int) (f_1:(List Source)) (f_2:(List Link)) (f_3:(List aJ)) (f_4:Int):Option Bool:=
 (j6 s_ f_ f_1 f_2 f_3 f_4).bind fun r_=>
 some (decide (0≤r_))
def fA (p:ah) (s_:State) (bus:Int):Option (Bool × Int):=
 (dG p s_ bus).bind fun r_=>
 bif (!decide (r_.2=0))then
 some (false,r_.2)
 else
 (bif gB [(r_.1.cleared,true)]then iO r_.1.events p.buses p.sources p.links p.racks bus else some default).bind fun r_1=>
 some ((bif r_.1.cleared then(!r_1)else false),0)
def nR (s_:State):Option State:=
 bW ((0:Int)≤0∧0<(7:Int)) (
 (bC s_.closed).bind fun r_=>
 bW ((0:Int)≤1∧1<(7:Int)) (
 (bC s_.locked).bind fun r_1=>
 bW ((0:Int)≤2∧2<(7:Int)) (
 (bC s_.badLink).bind fun r_2=>
 bW ((0:Int)≤3∧3<(7:Int)) (
 (bC s_.on_).bind fun r_3=>
 bW ((0:Int)≤4∧4<(7:Int)) (
 (bC s_.badSource).bind fun r_4=>
 bW ((0:Int)≤5∧5<(7:Int)) (
 (bC s_.earthed).bind fun r_5=>
 bW ((0:Int)≤6∧6<(7:Int)) (
 (bC s_.badBus).bind fun r_6=>
 some (⟨r_,r_1,r_2,r_3,r_4,r_5,r_6⟩:State))))))))
def rE (p:ah) (s_:State) (x:Part) (is:Bool):Option (State × Int):=
 (eT p s_).bind fun r_=>
 bif (!decide (r_=0))then
 some ((⟨([]:List Bool),([]:List Bool),([]:List Bool),([]:List Bool),([]:List Bool),([]:List Bool),([]:List Bool)⟩:State),r_)
 else
 (nR s_).bind fun r_1=>
 bif (gI x.kind 1)then
 (bn x.index 0 (IntKind.wrap .i64 ((r_1.badBus.length:Int) - 1))).bind fun r_2=>
 bif (!r_2)then
 some ((⟨([]:List Bool),([]:List Bool),([]:List Bool),([]:List Bool),([]:List Bool),([]:List Bool),([]:List Bool)⟩:State),14)
 else
 bW ((0:Int)≤x.index∧x.index<(r_1.badBus.length:Int)) (
 some ((⟨r_1.closed,r_1.locked,r_1.badLink,r_1.on_,r_1.badSource,r_1.earthed,(r_1.badBus.set x.index.toNat is)⟩:State),0))
 else
 bif (gI x.kind 2)then
 (bn x.index 0 (IntKind.wrap .i64 ((r_1.badSource.length:Int) - 1))).bind fun r_3=>
 bif (!r_3)then
 some ((⟨([]:List Bool),([]:List Bool),([]:List Bool),([]:List Bool),([]:List Bool),([]:List Bool),([]:List Bool)⟩:State),14)
 else
 bW ((0:Int)≤x.index∧x.index<(r_1.badSource.length:Int)) (
 some ((⟨r_1.closed,r_1.locked,r_1.badLink,r_1.on_,(r_1.badSource.set x.index.toNat is),r_1.earthed,r_1.badBus⟩:State),0))
 else
 bif (gI x.kind 3)then
 (bn x.index 0 (IntKind.wrap .i64 ((r_1.badLink.length:Int) - 1))).bind fun r_4=>
 bif (!r_4)then
 some ((⟨([]:List Bool),([]:List Bool),([]:List Bool),([]:List Bool),([]:List Bool),([]:List Bool),([]:List Bool)⟩:State),14)
 else
 bW ((0:Int)≤x.index∧x.index<(r_1.badLink.length:Int)) (
 some ((⟨r_1.closed,r_1.locked,(r_1.badLink.set x.index.toNat is),r_1.on_,r_1.badSource,r_1.earthed,r_1.badBus⟩:State),0))
 else
 (bn x.index 0 (-1)).bind fun r_5=>
 bif (!r_5)then
 some ((⟨([]:List Bool),([]:List Bool),([]:List Bool),([]:List Bool),([]:List Bool),([]:List Bool),([]:List Bool)⟩:State),14)
 else
 none
def qb (p:ah) (s_:State) (x:Part):Option (State × Int):=
 (rE p s_ x true).bind fun r_=>
 some (r_.1,r_.2)
def mh (p:ah) (s_:State):Option (Int × (List Source) × (List Link) × (List aJ) × (List Bool) × (List Bool) × (List Bool) × (List Bool) × (List Bool) × (List Bool) × (List Bool)):=
 some (p.buses,p.sources,p.links,p.racks,s_.closed,s_.locked,s_.badLink,s_.on_,s_.badSource,s_.earthed,s_.badBus)
def eB (g:aH):Int→Option (aM Int (Ex Unit Int)):=
 fun x1=>
 bif (!((bQ gI x1 g.head).isSome))then
 some (.done (.ret x1))
 else
 some (.next ((bQ gI x1 g.head).getD 0))
def cu (g:aH) (x:Int):Option Int:=
 Option.bind (ay (eB g) FUEL (x)) fun o=>match o with
 | .ret v=>some v
 | .brk _=>none
def jw (g:aH) (a:Int) (b:Int):Option (List (Int × Int)):=
 (cu g a).bind fun r_=>
 (cu g b).bind fun r_1=>
 bif (!decide (r_=r_1))then
 some (jH gI r_ r_1 g.head)
 else
 some g.head
def kL (x22:Int) (x221:Int) (x222:Int) (x223:Int) (x224:Int) (x225:(List bP)) (o_:aH):Option aH:=
 (jw o_ x22 x221).bind fun r_=>
 some (⟨r_⟩:aH)
def dB (x12:(List Link)) (x2:(List Bool)) (x22:(List Bool)) (x26:(List Bool)):((List (Int × Int)) × Int)→Option (aM ((List (Int × Int)) × Int) (Ex (List (Int × Int)) aH)):=
 fun zz=>match zz with
 |(o50,t9)=>
 bif (decide (t9<(x12.length:Int)))then
 bW ((0:Int)≤t9∧t9<(x12.length:Int)) (
 bif (bif (bif (bif (at' x2 t9.toNat)then(!(at' x22 t9.toNat))else false)then(!(at' x26 (((at' x12 t9.toNat).a).toNat)))else false)then(!(at' x26 (((at' x12 t9.toNat).b).toNat)))else false)then
 (kL ((at' x12 t9.toNat).a) ((at' x12 t9.toNat).b) ((at' x12 t9.toNat).kind) ((at' x12 t9.toNat).most) ((at' x12 t9.toNat).bK) ((at' x12 t9.toNat).trip) (⟨o50⟩:aH)).bind fun r_=>
 bW (((0:Int)≤t9∧t9<(x2.length:Int))∧(gB [((at' x2 t9.toNat),true)]=true→(0:Int)≤t9∧t9<(x22.length:Int))∧(gB [((bif (at' x2 t9.toNat)then(!(at' x22 t9.toNat))else false),true)]=true→(0:Int)≤(at' x12 t9.toNat).a∧(at' x12 t9.toNat).a<(x26.length:Int))∧(gB [((bif (bif (at' x2 t9.toNat)then(!(at' x22 t9.toNat))else false)then(!(at' x26 (((at' x12 t9.toNat).a).toNat)))else false),true)]=true→(0:Int)≤(at' x12 t9.toNat).b∧(at' x12 t9.toNat).b<(x26.length:Int))) (
 bif (!true)then
 some (.done (.ret r_))
 else
 some (.next (r_.head,(IntKind.wrap .i64 (t9+1)))))
 else
 bW (((0:Int)≤t9∧t9<(x2.length:Int))∧(gB [((at' x2 t9.toNat),true)]=true→(0:Int)≤t9∧t9<(x22.length:Int))∧(gB [((bif (at' x2 t9.toNat)then(!(at' x22 t9.toNat))else false),true)]=true→(0:Int)≤(at' x12 t9.toNat).a∧(at' x12 t9.toNat).a<(x26.length:Int))∧(gB [((bif (bif (at' x2 t9.toNat)then(!(at' x22 t9.toNat))else false)then(!(at' x26 (((at' x12 t9.toNat).a).toNat)))else false),true)]=true→(0:Int)≤(at' x12 t9.toNat).b∧(at' x12 t9.toNat).b<(x26.length:Int))) (
 some (.next (o50,(IntKind.wrap .i64 (t9+1))))))
 else
 some (.done (.brk o50))
def kJ (x1:Int) (x11:(List Source)) (x12:(List Link)) (x13:(List aJ)) (x2:(List Bool)) (x21:(List Bool)) (x22:(List Bool)) (x23:(List Bool)) (x24:(List Bool)) (x25:(List Bool)) (x26:(List Bool)) (o_:aH):Option aH:=
 Option.bind (ay (dB x12 x2 x22 x26) FUEL (o_.head,0)) fun o=>match o with
 | .ret v=>some v
 | .brk o501=>
 some (⟨o501⟩:aH)
def fV (p:ah) (s_:State) (r_1:aH):((List aG) × (List (Int × Int)) × Int)→Option (aM ((List aG) × (List (Int × Int)) × Int) (Ex ((List aG) × (List (Int × Int))) (List aG))):=
 fun zz=>match zz with
 |(out,at_,t32)=>
 bif (decide (t32<p.buses))then
 bW ((0:Int)≤t32∧t32<(s_.badBus.length:Int)) (
 bif (at' s_.badBus t32.toNat)then
 some (.next (out,at_,(IntKind.wrap .i64 (t32+1))))
 else
 (cu r_1 t32).bind fun r_2=>
 bif (!((bQ gI r_2 at_).isSome))then
 bW (((out.length+[(⟨([]:List Int),([]:List Int)⟩:aG)].length)*48≤140737488355328)∧(out.length+[(⟨([]:List Int),([]:List Int)⟩:aG)].length≤4611686018427387904)) (
 bW (((0:Int)≤((bQ gI r_2 (jH gI r_2 (out.length:Int) at_)).getD 0)∧((bQ gI r_2 (jH gI r_2 (out.length:Int) at_)).getD 0)<((out++[(⟨([]:List Int),([]:List Int)⟩:aG)]).length:Int))∧((((at' (out++[(⟨([]:List Int),([]:List Int)⟩:aG)]) (((bQ gI r_2 (jH gI r_2 (out.length:Int) at_)).getD 0).toNat)).buses).length+[t32].length)*8≤140737488355328)∧(((at' (out++[(⟨([]:List Int),([]:List Int)⟩:aG)]) (((bQ gI r_2 (jH gI r_2 (out.length:Int) at_)).getD 0).toNat)).buses).length+[t32].length≤4611686018427387904)) (
 some (.next (((out++[(⟨([]:List Int),([]:List Int)⟩:aG)]).set (((bQ gI r_2 (jH gI r_2 (out.length:Int) at_)).getD 0).toNat) (⟨(((at' (out++[(⟨([]:List Int),([]:List Int)⟩:aG)]) (((bQ gI r_2 (jH gI r_2 (out.length:Int) at_)).getD 0).toNat)).buses)++[t32]),(at' (out++[(⟨([]:List Int),([]:List Int)⟩:aG)]) (((bQ gI r_2 (jH gI r_2 (out.length:Int) at_)).getD 0).toNat)).sources⟩:aG)),(jH gI r_2 (out.length:Int) at_),(IntKind.wrap .i64 (t32+1))))))
 else
 bW (((0:Int)≤((bQ gI r_2 at_).getD 0)∧((bQ gI r_2 at_).getD 0)<(out.length:Int))∧((((at' out (((bQ gI r_2 at_).getD 0).toNat)).buses).length+[t32].length)*8≤140737488355328)∧(((at' out (((bQ gI r_2 at_).getD 0).toNat)).buses).length+[t32].length≤4611686018427387904)) (
 some (.next ((out.set (((bQ gI r_2 at_).getD 0).toNat) (⟨(((at' out (((bQ gI r_2 at_).getD 0).toNat)).buses)++[t32]),(at' out (((bQ gI r_2 at_).getD 0).toNat)).sources⟩:aG)),at_,(IntKind.wrap .i64 (t32+1))))))
 else
 some (.done (.brk (out,at_)))
def fU (p:ah) (s_:State) (r_1:aH) (at_1:(List (Int × Int))):((List aG) × Int)→Option (aM ((List aG) × Int) (Ex (List aG) (List aG))):=
 fun zz=>match zz with
 |(out2,t78)=>
 bif (decide (t78<(p.sources.length:Int)))then
 bW ((0:Int)≤t78∧t78<(p.sources.length:Int)) (
 bW (((0:Int)≤t78∧t78<(s_.on_.length:Int))∧(gB [((at' s_.on_ t78.toNat),true)]=true→(0:Int)≤t78∧t78<(s_.badSource.length:Int))∧(gB [((bif (at' s_.on_ t78.toNat)then(!(at' s_.badSource t78.toNat))else false),true)]=true→(0:Int)≤(at' p.sources t78.toNat).bus∧(at' p.sources t78.toNat).bus<(s_.badBus.length:Int))) (
 bif (bif (bif (at' s_.on_ t78.toNat)then(!(at' s_.badSource t78.toNat))else false)then(!(at' s_.badBus (((at' p.sources t78.toNat).bus).toNat)))else false)then
 (cu r_1 ((at' p.sources t78.toNat).bus)).bind fun r_3=>
 bW (((0:Int)≤((bQ gI r_3 at_1).getD 0)∧((bQ gI r_3 at_1).getD 0)<(out2.length:Int))∧((((at' out2 (((bQ gI r_3 at_1).getD 0).toNat)).sources).length+[t78].length)*8≤140737488355328)∧(((at' out2 (((bQ gI r_3 at_1).getD 0).toNat)).sources).length+[t78].length≤4611686018427387904)) (
 some (.next ((out2.set (((bQ gI r_3 at_1).getD 0).toNat) (⟨(at' out2 (((bQ gI r_3 at_1).getD 0).toNat)).buses,(((at' out2 (((bQ gI r_3 at_1).getD 0).toNat)).sources)++[t78])⟩:aG)),(IntKind.wrap .i64 (t78+1)))))
 else
 some (.next (out2,(IntKind.wrap .i64 (t78+1))))))
 else
 some (.done (.brk out2))
def mY (p:ah) (s_:State):Option (List aG):=
 (mh p s_).bind fun r_=>
 (kJ r_.1 r_.2.1 r_.2.2.1 r_.2.2.2.1 r_.2.2.2.2.1 r_.2.2.2.2.2.1 r_.2.2.2.2.2.2.1 r_.2.2.2.2.2.2.2.1 r_.2.2.2.2.2.2.2.2.1 r_.2.2.2.2.2.2.2.2.2.1 r_.2.2.2.2.2.2.2.2.2.2 (⟨([]:(List (Int × Int)))⟩:aH)).bind fun r_1=>
 Option.bind (ay (fV p s_ r_1) FUEL (([]:List aG),([]:(List (Int × Int))),0)) fun o=>match o with
 | .ret v=>some v
 | .brk (out1,at_1)=>
 Option.bind (ay (fU p s_ r_1 at_1) FUEL (out1,0)) fun o=>match o with
 | .ret v=>some v
 | .brk out3=>
 some out3
def kC (r_1:(List aG)) (t25:Int):((List Bool) × Int)→Option (aM ((List Bool) × Int) (Ex (List Bool) (aM ((List Bool) × Int) (Ex (List Bool) ((List Bool) × Int))))):=
 fun zz=>match zz with
 |(out2,t32)=>
 bif (decide (t32<(((at' r_1 t25.toNat).buses).length:Int)))then
 bW ((0:Int)≤t32∧t32<(((at' r_1 t25.toNat).buses).length:Int)) (
 bW ((0:Int)≤(at' ((at' r_1 t25.toNat).buses) t32.toNat)∧(at' ((at' r_1 t25.toNat).buses) t32.toNat)<(out2.length:Int)) (
 some (.next ((out2.set ((at' ((at' r_1 t25.toNat).buses) t32.toNat).toNat) (decide (0<(((at' r_1 t25.toNat).sources).length:Int)))),(IntKind.wrap .i64 (t32+1))))))
 else
 some (.done (.brk out2))
def kz (r_1:(List aG)):((List Bool) × Int)→Option (aM ((List Bool) × Int) (Ex (List Bool) ((List Bool) × Int))):=
 fun zz=>match zz with
 |(out,t25)=>
 bif (decide (t25<(r_1.length:Int)))then
 bW ((0:Int)≤t25∧t25<(r_1.length:Int)) (
 Option.bind (ay (kC r_1 t25) FUEL (out,0)) fun o=>match o with
 | .ret v=>some v
 | .brk out3=>
 some (.next (out3,(IntKind.wrap .i64 (t25+1)))))
 else
 some (.done (.brk out))
def oU (p:ah) (s_:State):Option ((List Bool) × Int):=
 (eT p s_).bind fun r_=>
 bif (!decide (r_=0))then
 some (([]:List Bool),r_)
 else
 bW (((0:Int)≤p.buses)∧((1:Int)*p.buses≤281474976710656)∧((p.buses:Int)≤9223372036854775807)) (
 (mY p s_).bind fun r_1=>
 Option.bind (ay (kz r_1) FUEL ((List.replicate p.buses.toNat (false:Bool)),0)) fun o=>match o with
 | .ret v=>some v
 | .brk out1=>
 some (out1,0))
def jO (p:ah) (r_:((List Bool) × Int)):((List ax) × Int)→Option (aM ((List ax) × Int) (Ex (List ax) ((List ax) × Int))):=
 fun zz=>match zz with
 |(out,t26)=>
 bif (decide (t26<(p.racks.length:Int)))then
 bW ((0:Int)≤t26∧t26<(p.racks.length:Int)) (
 bW (gB [((decide (0≤(((at' p.racks t26.toNat).feeds).e0))),true)]=true→(0:Int)≤((at' p.racks t26.toNat).feeds).e0∧((at' p.racks t26.toNat).feeds).e0<(r_.1.length:Int)) (
 bW (gB [((decide (0≤(((at' p.racks t26.toNat).feeds).e1))),true)]=true→(0:Int)≤((at' p.racks t26.toNat).feeds).e1∧((at' p.racks t26.toNat).feeds).e1<(r_.1.length:Int)) (
 bW (((out.length+[(⟨(bif (decide (0≤(((at' p.racks t26.toNat).feeds).e0)))then(at' r_.1 ((((at' p.racks t26.toNat).feeds).e0).toNat))else false),(bif (decide (0≤(((at' p.racks t26.toNat).feeds).e1)))then(at' r_.1 ((((at' p.racks t26.toNat).feeds).e1).toNat))else false)⟩:ax)].length)*2≤140737488355328)∧(out.length+[(⟨(bif (decide (0≤(((at' p.racks t26.toNat).feeds).e0)))then(at' r_.1 ((((at' p.racks t26.toNat).feeds).e0).toNat))else false),(bif (decide (0≤(((at' p.racks t26.toNat).feeds).e1)))then(at' r_.1 ((((at' p.racks t26.toNat).feeds).e1).toNat))else false)⟩:ax)].length≤4611686018427387904)) (
 some (.next ((out++[(⟨(bif (decide (0≤(((at' p.racks t26.toNat).feeds).e0)))then(at' r_.1 ((((at' p.racks t26.toNat).feeds).e0).toNat))else false),(bif (decide (0≤(((at' p.racks t26.toNat).feeds).e1)))then(at' r_.1 ((((at' p.racks t26.toNat).feeds).e1).toNat))else false)⟩:ax)]),(IntKind.wrap .i64 (t26+1))))))))
 else
 some (.done (.brk out))
def qD (p:ah) (s_:State):Option ((List ax) × Int):=
 (oU p s_).bind fun r_=>
 bif (!decide (r_.2=0))then
 some (([]:List ax),r_.2)
 else
 Option.bind (ay (jO p r_) FUEL (([]:List ax),0)) fun o=>match o with
 | .ret v=>some v
 | .brk out1=>
 some (out1,0)
def oI (x:ax):Option Bool:=
 some (bif x.e0 then true else x.e1)
def jg (p:ah) (r_2:((List ax) × Int)) (r_3:((List ax) × Int)):((List Int) × Int)→Option (aM ((List Int) × Int) (Ex (List Int) ((List Int) × Int))):=
 fun zz=>match zz with
 |(out,t58)=>
 bif (decide (t58<(p.racks.length:Int)))then
 (oI (at' r_2.1 t58.toNat)).bind fun r_4=>
 (bif gB [(r_4,true)]then oI (at' r_3.1 t58.toNat)else some default).bind fun r_5=>
 bW (((0:Int)≤t58∧t58<(r_2.1.length:Int))∧(gB [(r_4,true)]=true→(0:Int)≤t58∧t58<(r_3.1.length:Int))) (
 bif (bif r_4 then(!r_5)else false)then
 bW (((out.length+[t58].length)*8≤140737488355328)∧(out.length+[t58].length≤4611686018427387904)) (
 some (.next ((out++[t58]),(IntKind.wrap .i64 (t58+1)))))
 else
 some (.next (out,(IntKind.wrap .i64 (t58+1)))))
 else
 some (.done (.brk out))
def kH (p:ah) (s_:State) (bus:Int):Option ((List Int) × Int):=
 (dG p s_ bus).bind fun r_=>
 bif (!decide (r_.2=0))then
 some (([]:List Int),r_.2)
 else
 bif (!r_.1.cleared)then
 some (([]:List Int),4)
 else
 (qb p r_.1.state (⟨1,bus⟩:Part)).bind fun r_1=>
 (qD p s_).bind fun r_2=>
 (qD p r_1.1).bind fun r_3=>
 Option.bind (ay (jg p r_2 r_3) FUEL (([]:List Int),0)) fun o=>match o with
 | .ret v=>some v
 | .brk out1=>
 some (out1,0)
def kI (a:(List Int)) (b:(List Int)):Int→Option (aM Int (Ex Unit Bool)):=
 fun i=>
 bif (decide (i<(a.length:Int)))then
 bW (((0:Int)≤i∧i<(a.length:Int))∧((0:Int)≤i∧i<(b.length:Int))) (
 bif (!decide ((at' a i.toNat)=(at' b i.toNat)))then
 some (.done (.ret false))
 else
 some (.next (IntKind.wrap .i64 (i+1))))
 else
 some (.done (.brk ()))
def iV (a:(List Int)) (b:(List Int)):Option Bool:=
 bif (!decide ((a.length:Int)=(b.length:Int)))then
 some false
 else
 Option.bind (ay (kI a b) FUEL (0)) fun o=>match o with
 | .ret v=>some v
 | .brk _=>
 some true
def vE  :Option (ah × State):=
 bW (((0:Int)≤2)∧((1:Int)*2≤281474976710656)∧((2:Int)≤9223372036854775807)∧((0:Int)≤1)∧((1:Int)*1≤281474976710656)∧((1:Int)≤9223372036854775807)∧((0:Int)≤3)∧((1:Int)*3≤281474976710656)∧((3:Int)≤9223372036854775807)) (
 some ((⟨3,[(⟨0,1,500,0,20⟩:Source)],[(⟨0,1,3,400,10,[(⟨1000,400⟩:bP),(⟨10000,100⟩:bP)]⟩:Link),(⟨1,2,3,400,10,[(⟨1000,50⟩:bP)]⟩:Link)],[(⟨(⟨2,(-1)⟩:bL),100,1⟩:aJ),(⟨(⟨1,2⟩:bL),100,0⟩:aJ)]⟩:ah),(⟨[true,true],(List.replicate 2 (false:Bool)),(List.replicate 2 (false:Bool)),[true],(List.replicate 1 (false:Bool)),(List.replicate 3 (false:Bool)),(List.replicate 3 (false:Bool))⟩:State)))
def qa  :Option Bool:=
 (vE).bind fun r_=>
 (dG r_.1 r_.2 2).bind fun r_1=>
 (fA r_.1 r_.2 2).bind fun r_2=>
 (kH r_.1 r_.2 2).bind fun r_3=>
 bif (bif (bif (bif (bif (bif (bif (bif (!decide (r_1.2=0))then true else(!decide (r_2.2=0)))then true else(!decide (r_3.2=0)))then true else(!r_2.1))then true else(!decide ((r_1.1.events.length:Int)=1)))then true else(!((decide (((at' r_1.1.events 0).millis)=50)) && ((decide (((at' r_1.1.events 0).link)=1)) && true))))then true else(!r_1.1.cleared))then true else(!decide (r_1.1.energy=5000000)))then
 bW (gB [((bif (bif (bif (bif (!decide (r_1.2=0))then true else(!decide (r_2.2=0)))then true else(!decide (r_3.2=0)))then true else(!r_2.1))then true else(!decide ((r_1.1.events.length:Int)=1))),false)]=true→(0:Int)≤0∧0<(r_1.1.events.length:Int)) (
 some false)
 else
 (iV r_3.1 [0]).bind fun r_4=>
 bW (gB [((bif (bif (bif (bif (!decide (r_1.2=0))then true else(!decide (r_2.2=0)))then true else(!decide (r_3.2=0)))then true else(!r_2.1))then true else(!decide ((r_1.1.events.length:Int)=1))),false)]=true→(0:Int)≤0∧0<(r_1.1.events.length:Int)) (
 bif (!r_4)then
 some false
 else
 bW ((0:Int)≤1∧1<(r_.1.links.length:Int)) (
 (dG (⟨r_.1.buses,r_.1.sources,(r_.1.links.set 1 (⟨(at' r_.1.links 1).a,(at' r_.1.links 1).b,(at' r_.1.links 1).kind,(at' r_.1.links 1).most,(at' r_.1.links 1).bK,([]:List bP)⟩:Link)),r_.1.racks⟩:ah) r_.2 2).bind fun r_5=>
 (fA (⟨r_.1.buses,r_.1.sources,(r_.1.links.set 1 (⟨(at' r_.1.links 1).a,(at' r_.1.links 1).b,(at' r_.1.links 1).kind,(at' r_.1.links 1).most,(at' r_.1.links 1).bK,([]:List bP)⟩:Link)),r_.1.racks⟩:ah) r_.2 2).bind fun r_6=>
 bW (gB [((bif (bif (bif (bif (decide (r_5.2=0))then(decide (r_6.2=0))else false)then(!r_6.1)else false)then r_5.1.cleared else false)then(decide ((r_5.1.events.length:Int)=1))else false),true)]=true→(0:Int)≤0∧0<(r_5.1.events.length:Int)) (
 some (bif (bif (bif (bif (bif (bif (decide (r_5.2=0))then(decide (r_6.2=0))else false)then(!r_6.1)else false)then r_5.1.cleared else false)then(decide ((r_5.1.events.length:Int)=1))else false)then((decide (((at' r_5.1.events 0).millis)=100)) && ((decide (((at' r_5.1.events 0).link)=0)) && true))else false)then(decide (r_5.1.millis=100))else false))))
def nL (l:(List Source)):Option (List Source):=
 bW ((l.length*40≤140737488355328)∧(l.length≤4611686018427387904)) (
 some l)
def qm (l:(List bP)):Option (List bP):=
 bW ((l.length*16≤140737488355328)∧(l.length≤4611686018427387904)) (
 some l)
def oh (x:Link):Option Link:=
 (qm x.trip).bind fun r_=>
 some (⟨x.a,x.b,x.kind,x.most,x.bK,r_⟩:Link)
def gu (l:(List Link)):((List Link) × Int)→Option (aM ((List Link) × Int) (Ex (List Link) (List Link))):=
 fun zz=>match zz with
 |(out,i)=>
 bif (decide (i<(l.length:Int)))then
 (oh (at' l i.toNat)).bind fun r_=>
 bW (((0:Int)≤i∧i<(l.length:Int))∧((out.length+[r_].length)*64≤140737488355328)∧(out.length+[r_].length≤4611686018427387904)) (
 some (.next ((out++[r_]),(IntKind.wrap .i64 (i+1)))))
 else
 some (.done (.brk out))
def qo (l:(List Link)):Option (List Link):=
 Option.bind (ay (gu l) FUEL (([]:List Link),0)) fun o=>match o with
 | .ret v=>some v
 | .brk out1=>
 some out1
def ql (l:(List aJ)):Option (List aJ):=
 bW ((l.length*32≤140737488355328)∧(l.length≤4611686018427387904)) (
 some l)
def mO (x:ah):Option ah:=
 (nL x.sources).bind fun r_=>
 (qo x.links).bind fun r_1=>
 (ql x.racks).bind fun r_2=>
 some (⟨x.buses,r_,r_1,r_2⟩:ah)
def bU (l:(List Bool)):Option (List Bool):=
 bW ((l.length*1≤140737488355328)∧(l.length≤4611686018427387904)) (
 some l)
def gX (x:State):Option State:=
 (bU x.closed).bind fun r_=>
 (bU x.locked).bind fun r_1=>
 (bU x.badLink).bind fun r_2=>
 (bU x.on_).bind fun r_3=>
 (bU x.badSource).bind fun r_4=>
 (bU x.earthed).bind fun r_5=>
 (bU x.badBus).bind fun r_6=>
 some (⟨r_,r_1,r_2,r_3,r_4,r_5,r_6⟩:State)
def xP (x:Int) (n:Int):Option Int:=
 bif (decide (n<1))then
 some 0
 else
 bW (n≠(0:Int)) (
 bif (decide ((Int.tmod x n)<0))then
 some (IntKind.wrap .i64 ((Int.tmod x n)+n))
 else
 some (Int.tmod x n))
def lK (p:ah) (s_:State):Int→Option (aM Int (Ex Unit Bool)):=
 fun i=>
 bif (decide (i<(p.links.length:Int)))then
 bW (((0:Int)≤i∧i<(p.links.length:Int))∧(gB [((decide (((at' p.links i.toNat).kind)=1)),true)]=true→(0:Int)≤i∧i<(s_.closed.length:Int))∧(gB [((!(at' s_.closed i.toNat)),false),((decide (((at' p.links i.toNat).kind)=1)),true)]=true→(0:Int)≤i∧i<(s_.locked.length:Int))) (
 bif (bif (decide (((at' p.links i.toNat).kind)=1))then(bif (!(at' s_.closed i.toNat))then true else(at' s_.locked i.toNat))else false)then
 some (.done (.ret false))
 else
 some (.next (IntKind.wrap .i64 (i+1))))
 else
 some (.done (.brk ()))
def pO (p:ah) (s_:State):Option Bool:=
 bif (bif (bif (bif (bif (bif (bif (!decide ((s_.closed.length:Int)=(p.links.length:Int)))then true else(!decide ((s_.locked.length:Int)=(p.links.length:Int))))then true else(!decide ((s_.badLink.length:Int)=(p.links.length:Int))))then true else(!decide ((s_.on_.length:Int)=(p.sources.length:Int))))then true else(!decide ((s_.badSource.length:Int)=(p.sources.length:Int))))then true else(!decide ((s_.earthed.length:Int)=p.buses)))then true else(!decide ((s_.badBus.length:Int)=p.buses)))then
 some false
 else
 Option.bind (ay (lK p s_) FUEL (0)) fun o=>match o with
 | .ret v=>some v
 | .brk _=>
 some true
def fT (p:ah) (s_:State):Option Int:=
 (kQ p).bind fun r_=>
 (bif gB [((decide (r_=0)),true)]then pO p s_ else some default).bind fun r_1=>
 bif (bif (decide (r_=0))then(!r_1)else false)then
 some 9
 else
 some r_
def ni (p:ah) (s_:State) (k:Int):Option Bool:=
 bW (((0:Int)≤k∧k<(s_.on_.length:Int))∧(gB [((at' s_.on_ k.toNat),true)]=true→(0:Int)≤k∧k<(s_.badSource.length:Int))∧(gB [((bif (at' s_.on_ k.toNat)then(!(at' s_.badSource k.toNat))else false),true)]=true→(0:Int)≤k∧k<(p.sources.length:Int))∧(gB [((bif (at' s_.on_ k.toNat)then(!(at' s_.badSource k.toNat))else false),true)]=true→(0:Int)≤(at' p.sources k.toNat).bus∧(at' p.sources k.toNat).bus<(s_.badBus.length:Int))) (
 some (bif (bif (at' s_.on_ k.toNat)then(!(at' s_.badSource k.toNat))else false)then(!(at' s_.badBus (((at' p.sources k.toNat).bus).toNat)))else false))
def dV (p:ah) (s_:State) (i:Int):Option Bool:=
 bW (((0:Int)≤i∧i<(s_.closed.length:Int))∧(gB [((at' s_.closed i.toNat),true)]=true→(0:Int)≤i∧i<(s_.badLink.length:Int))∧(gB [((bif (at' s_.closed i.toNat)then(!(at' s_.badLink i.toNat))else false),true)]=true→(0:Int)≤i∧i<(p.links.length:Int))∧(gB [((bif (at' s_.closed i.toNat)then(!(at' s_.badLink i.toNat))else false),true)]=true→(0:Int)≤(at' p.links i.toNat).a∧(at' p.links i.toNat).a<(s_.badBus.length:Int))∧(gB [((bif (bif (at' s_.closed i.toNat)then(!(at' s_.badLink i.toNat))else false)then(!(at' s_.badBus (((at' p.links i.toNat).a).toNat)))else false),true)]=true→(0:Int)≤i∧i<(p.links.length:Int))∧(gB [((bif (bif (at' s_.closed i.toNat)then(!(at' s_.badLink i.toNat))else false)then(!(at' s_.badBus (((at' p.links i.toNat).a).toNat)))else false),true)]=true→(0:Int)≤(at' p.links i.toNat).b∧(at' p.links i.toNat).b<(s_.badBus.length:Int))) (
 some (bif (bif (bif (at' s_.closed i.toNat)then(!(at' s_.badLink i.toNat))else false)then(!(at' s_.badBus (((at' p.links i.toNat).a).toNat)))else false)then(!(at' s_.badBus (((at' p.links i.toNat).b).toNat)))else false))
def fZ (l:(List Int)) (best:(List Int)):Int→Option (aM Int (Ex Unit Bool)):=
 fun i=>
 bif (decide (i<(l.length:Int)))then
 bW (((0:Int)≤i∧i<(l.length:Int))∧((0:Int)≤i∧i<(best.length:Int))) (
 bif (!decide ((at' l i.toNat)=(at' best i.toNat)))then
 bW (((0:Int)≤i∧i<(l.length:Int))∧((0:Int)≤i∧i<(best.length:Int))) (
 some (.done (.ret (decide ((at' l i.toNat)<(at' best i.toNat))))))
 else
 some (.next (IntKind.wrap .i64 (i+1))))
 else
 some (.done (.brk ()))
def fQ (bK:Int) (l:(List Int)) (least:Int) (best:(List Int)):Option Bool:=
 bif (!decide (bK=least))then
 some (decide (bK<least))
 else
 bif (!decide ((l.length:Int)=(best.length:Int)))then
 some (decide ((l.length:Int)<(best.length:Int)))
 else
 Option.bind (ay (fZ l best) FUEL (0)) fun o=>match o with
 | .ret v=>some v
 | .brk _=>
 some false
def lm (rec:ah→State→Int→Int→(List Bool)→Option (Int × (List Int))) (p:ah) (s_:State) (from_:Int) (to_:Int) (met:(List Bool)):(Int × (List Int) × Int)→Option (aM (Int × (List Int) × Int) (Ex (Int × (List Int)) (Int × (List Int)))):=
 fun zz=>match zz with
 |(bK,best,i)=>
 bif (decide (i<(p.links.length:Int)))then
 Option.bind (α:=(Int × (List Int))) (
 bW ((0:Int)≤i∧i<(p.links.length:Int)) (
 bif (decide (((at' p.links i.toNat).a)=from_))then
 bif (decide (((at' p.links i.toNat).b)=from_))then
 (bif gB [((bif (decide (((at' p.links i.toNat).a)<0))then true else(at' ((([]:List Bool)++met).set from_.toNat true) (((at' p.links i.toNat).a).toNat))),false)]then dV p s_ i else some default).bind fun r_=>
 bW (gB [((decide (((at' p.links i.toNat).a)<0)),false)]=true→(0:Int)≤(at' p.links i.toNat).a∧(at' p.links i.toNat).a<(((([]:List Bool)++met).set from_.toNat true).length:Int)) (
 bif (bif (bif (decide (((at' p.links i.toNat).a)<0))then true else(at' ((([]:List Bool)++met).set from_.toNat true) (((at' p.links i.toNat).a).toNat)))then true else(!r_))then
 some (bK,best)
 else
 (rec p s_ ((at' p.links i.toNat).a) to_ ((([]:List Bool)++met).set from_.toNat true)).bind fun r_1=>
 bif (decide (r_1.1<0))then
 some (bK,best)
 else
 bW ((([i].length+r_1.2.length)*8≤140737488355328)∧([i].length+r_1.2.length≤4611686018427387904)) (
 (bif gB [((decide (bK<0)),false)]then fQ (IntKind.wrap .i64 (((at' p.links i.toNat).bK)+r_1.1)) ([i]++r_1.2) bK best else some default).bind fun r_2=>
 bif (bif (decide (bK<0))then true else r_2)then
 some ((IntKind.wrap .i64 (((at' p.links i.toNat).bK)+r_1.1)),([i]++r_1.2))
 else
 some (bK,best)))
 else
 (bif gB [((bif (decide (((at' p.links i.toNat).b)<0))then true else(at' ((([]:List Bool)++met).set from_.toNat true) (((at' p.links i.toNat).b).toNat))),false)]then dV p s_ i else some default).bind fun r_3=>
 bW (gB [((decide (((at' p.links i.toNat).b)<0)),false)]=true→(0:Int)≤(at' p.links i.toNat).b∧(at' p.links i.toNat).b<(((([]:List Bool)++met).set from_.toNat true).length:Int)) (
 bif (bif (bif (decide (((at' p.links i.toNat).b)<0))then true else(at' ((([]:List Bool)++met).set from_.toNat true) (((at' p.links i.toNat).b).toNat)))then true else(!r_3))then
 some (bK,best)
 else
 (rec p s_ ((at' p.links i.toNat).b) to_ ((([]:List Bool)++met).set from_.toNat true)).bind fun r_4=>
 bif (decide (r_4.1<0))then
 some (bK,best)
 else
 bW ((([i].length+r_4.2.length)*8≤140737488355328)∧([i].length+r_4.2.length≤4611686018427387904)) (
 (bif gB [((decide (bK<0)),false)]then fQ (IntKind.wrap .i64 (((at' p.links i.toNat).bK)+r_4.1)) ([i]++r_4.2) bK best else some default).bind fun r_5=>
 bif (bif (decide (bK<0))then true else r_5)then
 some ((IntKind.wrap .i64 (((at' p.links i.toNat).bK)+r_4.1)),([i]++r_4.2))
 else
 some (bK,best)))
 else
 bif (decide (((at' p.links i.toNat).b)=from_))then
 (bif gB [((bif (decide (((at' p.links i.toNat).a)<0))then true else(at' ((([]:List Bool)++met).set from_.toNat true) (((at' p.links i.toNat).a).toNat))),false)]then dV p s_ i else some default).bind fun r_6=>
 bW (gB [((decide (((at' p.links i.toNat).a)<0)),false)]=true→(0:Int)≤(at' p.links i.toNat).a∧(at' p.links i.toNat).a<(((([]:List Bool)++met).set from_.toNat true).length:Int)) (
 bif (bif (bif (decide (((at' p.links i.toNat).a)<0))then true else(at' ((([]:List Bool)++met).set from_.toNat true) (((at' p.links i.toNat).a).toNat)))then true else(!r_6))then
 some (bK,best)
 else
 (rec p s_ ((at' p.links i.toNat).a) to_ ((([]:List Bool)++met).set from_.toNat true)).bind fun r_7=>
 bif (decide (r_7.1<0))then
 some (bK,best)
 else
 bW ((([i].length+r_7.2.length)*8≤140737488355328)∧([i].length+r_7.2.length≤4611686018427387904)) (
 (bif gB [((decide (bK<0)),false)]then fQ (IntKind.wrap .i64 (((at' p.links i.toNat).bK)+r_7.1)) ([i]++r_7.2) bK best else some default).bind fun r_8=>
 bif (bif (decide (bK<0))then true else r_8)then
 some ((IntKind.wrap .i64 (((at' p.links i.toNat).bK)+r_7.1)),([i]++r_7.2))
 else
 some (bK,best)))
 else
 (bif gB [((bif true then true else false),false)]then dV p s_ i else some default).bind fun r_9=>
 bif (bif (bif true then true else false)then true else(!r_9))then
 some (bK,best)
 else
 (rec p s_ (-1) to_ ((([]:List Bool)++met).set from_.toNat true)).bind fun r_10=>
 bif (decide (r_10.1<0))then
 some (bK,best)
 else
 bW ((([i].length+r_10.2.length)*8≤140737488355328)∧([i].length+r_10.2.length≤4611686018427387904)) (
 (bif gB [((decide (bK<0)),false)]then fQ (IntKind.wrap .i64 (((at' p.links i.toNat).bK)+r_10.1)) ([i]++r_10.2) bK best else some default).bind fun r_11=>
 bif (bif (decide (bK<0))then true else r_11)then
 some ((IntKind.wrap .i64 (((at' p.links i.toNat).bK)+r_10.1)),([i]++r_10.2))
 else
 some (bK,best)))) fun(ohm2,best2)=>
 some (.next (ohm2,best2,(IntKind.wrap .i64 (i+1))))
 else
 some (.done (.brk (bK,best)))
def lJ (rec:ah→State→Int→Int→(List Bool)→Option (Int × (List Int))) (p:ah) (s_:State) (from_:Int) (to_:Int) (met:(List Bool)):Option (Int × (List Int)):=
 bif (decide (from_=to_))then
 some (0,([]:List Int))
 else
 bW (((([]:List Bool).length+met.length)*1≤140737488355328)∧(([]:List Bool).length+met.length≤4611686018427387904)) (
 bW ((0:Int)≤from_∧from_<((([]:List Bool)++met).length:Int)) (
 Option.bind (ay (lm rec p s_ from_ to_ met) FUEL ((-1),([]:List Int),0)) fun o=>match o with
 | .ret v=>some v
 | .brk (ohm1,best1)=>
 some (ohm1,best1)))
def jE:Nat→ah→State→Int→Int→(List Bool)→Option (Int × (List Int))
 |0,_,_,_,_,_=>none
 |n+1,p,s_,from_,to_,met=>lJ (jE n) p s_ from_ to_ met
def eu (p:ah) (s_:State) (bus:Int):((List Short) × Int)→Option (aM ((List Short) × Int) (Ex (List Short) ((List Short) × Int))):=
 fun zz=>match zz with
 |(out,k)=>
 bW (gB [((decide (k<(p.sources.length:Int))),true)]=true→(0:Int)≤bus∧bus<(s_.badBus.length:Int)) (
 bif (bif (decide (k<(p.sources.length:Int)))then(!(at' s_.badBus bus.toNat))else false)then
 Option.bind (α:=(List Short)) (
 (ni p s_ k).bind fun r_1=>
 bif (!r_1)then
 some out
 else
 (jE FUEL p s_ ((at' p.sources k.toNat).bus) bus (List.replicate p.buses.toNat (false:Bool))).bind fun r_2=>
 bW (((0:Int)≤k∧k<(p.sources.length:Int))∧((0:Int)≤p.buses)∧((1:Int)*p.buses≤281474976710656)∧((p.buses:Int)≤9223372036854775807)) (
 bif (decide (r_2.1<0))then
 some out
 else
 bW ((0:Int)≤k∧k<(p.sources.length:Int)) (
 bW ((IntKind.wrap .i64 (r_2.1+((at' p.sources k.toNat).bK)))≠(0:Int)) (
 bif (decide ((IntKind.wrap .i64 ((IntKind.wrap .i64 (Int.tdiv (400000:Int) (IntKind.wrap .i64 (r_2.1+((at' p.sources k.toNat).bK)))))*(IntKind.wrap .i64 (r_2.1+((at' p.sources k.toNat).bK)))))<400000))then
 bW (((out.length+[(⟨k,(IntKind.wrap .i64 (r_2.1+((at' p.sources k.toNat).bK))),(IntKind.wrap .i64 ((IntKind.wrap .i64 (Int.tdiv (400000:Int) (IntKind.wrap .i64 (r_2.1+((at' p.sources k.toNat).bK)))))+1)),r_2.2⟩:Short)].length)*48≤140737488355328)∧(out.length+[(⟨k,(IntKind.wrap .i64 (r_2.1+((at' p.sources k.toNat).bK))),(IntKind.wrap .i64 ((IntKind.wrap .i64 (Int.tdiv (400000:Int) (IntKind.wrap .i64 (r_2.1+((at' p.sources k.toNat).bK)))))+1)),r_2.2⟩:Short)].length≤4611686018427387904)) (
 some (out++[(⟨k,(IntKind.wrap .i64 (r_2.1+((at' p.sources k.toNat).bK))),(IntKind.wrap .i64 ((IntKind.wrap .i64 (Int.tdiv (400000:Int) (IntKind.wrap .i64 (r_2.1+((at' p.sources k.toNat).bK)))))+1)),r_2.2⟩:Short)]))
 else
 bW (((out.length+[(⟨k,(IntKind.wrap .i64 (r_2.1+((at' p.sources k.toNat).bK))),(IntKind.wrap .i64 (Int.tdiv (400000:Int) (IntKind.wrap .i64 (r_2.1+((at' p.sources k.toNat).bK))))),r_2.2⟩:Short)].length)*48≤140737488355328)∧(out.length+[(⟨k,(IntKind.wrap .i64 (r_2.1+((at' p.sources k.toNat).bK))),(IntKind.wrap .i64 (Int.tdiv (400000:Int) (IntKind.wrap .i64 (r_2.1+((at' p.sources k.toNat).bK))))),r_2.2⟩:Short)].length≤4611686018427387904)) (
 some (out++[(⟨k,(IntKind.wrap .i64 (r_2.1+((at' p.sources k.toNat).bK))),(IntKind.wrap .i64 (Int.tdiv (400000:Int) (IntKind.wrap .i64 (r_2.1+((at' p.sources k.toNat).bK))))),r_2.2⟩:Short)])))))) fun out2=>
 some (.next (out2,(IntKind.wrap .i64 (k+1))))
 else
 some (.done (.brk out)))
def nU (p:ah) (s_:State) (bus:Int):Option ((List Short) × Int):=
 (fT p s_).bind fun r_=>
 bif (!decide (r_=0))then
 some (([]:List Short),r_)
 else
 bif (bif (decide (bus<0))then true else(decide (p.buses≤bus)))then
 some (([]:List Short),1)
 else
 Option.bind (ay (eu p s_ bus) FUEL (([]:List Short),0)) fun o=>match o with
 | .ret v=>some v
 | .brk out1=>
 some (out1,0)
def iI (p:ah) (l:(List Short)) (n:Int):((List Bool) × Int)→Option (aM ((List Bool) × Int) (Ex (List Bool) (aM ((List Int) × Int) (Ex (List Int) ((List Int) × Int))))):=
 fun zz=>match zz with
 |(has,i)=>
 bW ((0:Int)≤n∧n<(l.length:Int)) (
 bif (decide (i<(((at' l n.toNat).links).length:Int)))then
 bW (((0:Int)≤n∧n<(l.length:Int))∧((0:Int)≤i∧i<(((at' l n.toNat).links).length:Int))) (
 bif (bif (decide ((at' ((at' l n.toNat).links) i.toNat)<0))then true else(decide ((p.links.length:Int)≤(at' ((at' l n.toNat).links) i.toNat))))then
 some (.done (.ret (.done (.ret (([]:List Int),1)))))
 else
 bW ((0:Int)≤(at' ((at' l n.toNat).links) i.toNat)∧(at' ((at' l n.toNat).links) i.toNat)<(has.length:Int)) (
 some (.next ((has.set ((at' ((at' l n.toNat).links) i.toNat).toNat) true),(IntKind.wrap .i64 (i+1))))))
 else
 some (.done (.brk has)))
def iF (l:(List Short)) (n:Int) (has1:(List Bool)):((List Int) × Int)→Option (aM ((List Int) × Int) (Ex (List Int) (aM ((List Int) × Int) (Ex (List Int) ((List Int) × Int))))):=
 fun zz=>match zz with
 |(out2,k)=>
 bif (decide (k<(out2.length:Int)))then
 bW ((0:Int)≤k∧k<(has1.length:Int)) (
 bif (at' has1 k.toNat)then
 bW (((0:Int)≤k∧k<(out2.length:Int))∧((0:Int)≤n∧n<(l.length:Int))) (
 some (.next ((out2.set k.toNat (IntKind.wrap .i64 ((at' out2 k.toNat)+((at' l n.toNat).amps)))),(IntKind.wrap .i64 (k+1)))))
 else
 some (.next (out2,(IntKind.wrap .i64 (k+1)))))
 else
 some (.done (.brk out2))
def iC (p:ah) (l:(List Short)):((List Int) × Int)→Option (aM ((List Int) × Int) (Ex (List Int) ((List Int) × Int))):=
 fun zz=>match zz with
 |(out,n)=>
 bif (decide (n<(l.length:Int)))then
 bW (((0:Int)≤n∧n<(l.length:Int))∧(gB [((decide (((at' l n.toNat).amps)<0)),false)]=true→(0:Int)≤n∧n<(l.length:Int))) (
 bif (bif (decide (((at' l n.toNat).amps)<0))then true else(decide (1000000<((at' l n.toNat).amps))))then
 some (.done (.ret (([]:List Int),1)))
 else
 bW (((0:Int)≤(p.links.length:Int))∧((1:Int)*(p.links.length:Int)≤281474976710656)∧(((p.links.length:Int):Int)≤9223372036854775807)) (
 Option.bind (ay (iI p l n) FUEL ((List.replicate ((p.links.length:Int).toNat) (false:Bool)),0)) fun o=>match o with
 | .ret v=>some v
 | .brk has1=>
 Option.bind (ay (iF l n has1) FUEL (out,0)) fun o=>match o with
 | .ret v=>some v
 | .brk out3=>
 some (.next (out3,(IntKind.wrap .i64 (n+1))))))
 else
 some (.done (.brk out))
def mI (p:ah) (l:(List Short)):Option ((List Int) × Int):=
 (kQ p).bind fun r_=>
 bif (!decide (r_=0))then
 some (([]:List Int),r_)
 else
 bif (decide (8<(l.length:Int)))then
 some (([]:List Int),1)
 else
 bW (((0:Int)≤(p.links.length:Int))∧((8:Int)*(p.links.length:Int)≤281474976710656)∧(((p.links.length:Int):Int)≤9223372036854775807)) (
 Option.bind (ay (iC p l) FUEL ((List.replicate ((p.links.length:Int).toNat) (0:Int)),0)) fun o=>match o with
 | .ret v=>some v
 | .brk out1=>
 some (out1,0))
def jL (x:Link) (amps:Int):(Int × Bool × Int)→Option (aM (Int × Bool × Int) (Ex (Int × Bool) (Int × Bool))):=
 fun zz=>match zz with
 |(out,ok,i)=>
 bif (decide (i<(x.trip.length:Int)))then
 bW ((0:Int)≤i∧i<(x.trip.length:Int)) (
 bif (decide (((at' x.trip i.toNat).amps)≤amps))then
 bW ((0:Int)≤i∧i<(x.trip.length:Int)) (
 some (.next ((at' x.trip i.toNat).millis,true,(IntKind.wrap .i64 (i+1)))))
 else
 some (.next (out,ok,(IntKind.wrap .i64 (i+1)))))
 else
 some (.done (.brk (out,ok)))
def pV (x:Link) (amps:Int):Option (Int × Bool):=
 Option.bind (ay (jL x amps) FUEL (0,false,0)) fun o=>match o with
 | .ret v=>some v
 | .brk (out1,ok1)=>
 some (out1,ok1)
def kE (p:ah) (s_:State) (i:Int) (amps:Int) (since:Int):Option Int:=
 bW (((0:Int)≤i∧i<(p.links.length:Int))∧(gB [((!decide (((at' p.links i.toNat).kind)=3)),false)]=true→(0:Int)≤i∧i<(s_.closed.length:Int))∧(gB [((bif (!decide (((at' p.links i.toNat).kind)=3))then true else(!(at' s_.closed i.toNat))),false)]=true→(0:Int)≤i∧i<(s_.badLink.length:Int))) (
 bif (bif (bif (!decide (((at' p.links i.toNat).kind)=3))then true else(!(at' s_.closed i.toNat)))then true else(at' s_.badLink i.toNat))then
 some (-1)
 else
 (pV (at' p.links i.toNat) amps).bind fun r_=>
 bW ((0:Int)≤i∧i<(p.links.length:Int)) (
 bif (!r_.2)then
 some (-1)
 else
 some (IntKind.wrap .i64 (since+r_.1))))
def lQ (r_2:((List Short) × Int)):(Int × Int)→Option (aM (Int × Int) (Ex Int (aM ((List Event) × Int × Int × (List Bool) × (List Int) × (List Int)) (Ex Unit (aj × Int))))):=
 fun zz=>match zz with
 |(total,k)=>
 bif (decide (k<(r_2.1.length:Int)))then
 bW ((0:Int)≤k∧k<(r_2.1.length:Int)) (
 some (.next ((IntKind.wrap .i64 (total+((at' r_2.1 k.toNat).amps))),(IntKind.wrap .i64 (k+1)))))
 else
 some (.done (.brk total))
def jG (p:ah) (r_1:State) (c2:Int) (c4:(List Bool)) (before:(List Int)) (r_3:((List Int) × Int)):((List Int) × Int × Int)→Option (aM ((List Int) × Int × Int) (Ex ((List Int) × Int) (aM ((List Event) × Int × Int × (List Bool) × (List Int) × (List Int)) (Ex Unit (aj × Int))))):=
 fun zz=>match zz with
 |(since1,next_,i)=>
 bif (decide (i<(p.links.length:Int)))then
 Option.bind (α:=((List Int) × Int)) (
 bW (((0:Int)≤i∧i<(r_3.1.length:Int))∧((0:Int)≤i∧i<(before.length:Int))) (
 bif (!decide ((at' r_3.1 i.toNat)=(at' before i.toNat)))then
 bW ((0:Int)≤i∧i<(since1.length:Int)) (
 (kE p (⟨c4,r_1.locked,r_1.badLink,r_1.on_,r_1.badSource,r_1.earthed,r_1.badBus⟩:State) i (at' r_3.1 i.toNat) (at' (since1.set i.toNat c2) i.toNat)).bind fun r_4=>
 bW (((0:Int)≤i∧i<(r_3.1.length:Int))∧((0:Int)≤i∧i<((since1.set i.toNat c2).length:Int))) (
 bif (bif (decide (0≤r_4))then(bif (decide (next_<0))then true else(decide (r_4<next_)))else false)then
 some ((since1.set i.toNat c2),r_4)
 else
 some ((since1.set i.toNat c2),next_)))
 else
 (kE p (⟨c4,r_1.locked,r_1.badLink,r_1.on_,r_1.badSource,r_1.earthed,r_1.badBus⟩:State) i (at' r_3.1 i.toNat) (at' since1 i.toNat)).bind fun r_5=>
 bW (((0:Int)≤i∧i<(r_3.1.length:Int))∧((0:Int)≤i∧i<(since1.length:Int))) (
 bif (bif (decide (0≤r_5))then(bif (decide (next_<0))then true else(decide (r_5<next_)))else false)then
 some (since1,r_5)
 else
 some (since1,next_)))) fun(since3,next_2)=>
 some (.next (since3,next_2,(IntKind.wrap .i64 (i+1))))
 else
 some (.done (.brk (since1,next_)))
def jK (p:ah) (r_1:State) (c2:Int) (r_3:((List Int) × Int)) (since2:(List Int)) (next_1:Int):((List Event) × (List Bool) × Int)→Option (aM ((List Event) × (List Bool) × Int) (Ex ((List Event) × (List Bool)) (aM ((List Event) × Int × Int × (List Bool) × (List Int) × (List Int)) (Ex Unit (aj × Int))))):=
 fun zz=>match zz with
 |(c01,c41,i1)=>
 bif (decide (i1<(p.links.length:Int)))then
 (kE p (⟨c41,r_1.locked,r_1.badLink,r_1.on_,r_1.badSource,r_1.earthed,r_1.badBus⟩:State) i1 (at' r_3.1 i1.toNat) (at' since2 i1.toNat)).bind fun r_6=>
 bW (((0:Int)≤i1∧i1<(r_3.1.length:Int))∧((0:Int)≤i1∧i1<(since2.length:Int))) (
 bif (bif (decide (0≤r_6))then(decide (r_6≤(if next_1<c2 then c2 else next_1)))else false)then
 bW (((c01.length+[(⟨(if next_1<c2 then c2 else next_1),i1⟩:Event)].length)*16≤140737488355328)∧(c01.length+[(⟨(if next_1<c2 then c2 else next_1),i1⟩:Event)].length≤4611686018427387904)) (
 bW ((0:Int)≤i1∧i1<(c41.length:Int)) (
 some (.next ((c01++[(⟨(if next_1<c2 then c2 else next_1),i1⟩:Event)]),(c41.set i1.toNat false),(IntKind.wrap .i64 (i1+1))))))
 else
 some (.next (c01,c41,(IntKind.wrap .i64 (i1+1)))))
 else
 some (.done (.brk (c01,c41)))
def jI (p:ah) (r_1:State) (c2:Int) (r_3:((List Int) × Int)) (since2:(List Int)) (next_1:Int):((List Event) × (List Bool) × Int)→Option (aM ((List Event) × (List Bool) × Int) (Ex ((List Event) × (List Bool)) (aM ((List Event) × Int × Int × (List Bool) × (List Int) × (List Int)) (Ex Unit (aj × Int))))):=
 fun zz=>match zz with
 |(c03,c43,i2)=>
 bif (decide (i2<(p.links.length:Int)))then
 (kE p (⟨c43,r_1.locked,r_1.badLink,r_1.on_,r_1.badSource,r_1.earthed,r_1.badBus⟩:State) i2 (at' r_3.1 i2.toNat) (at' since2 i2.toNat)).bind fun r_7=>
 bW (((0:Int)≤i2∧i2<(r_3.1.length:Int))∧((0:Int)≤i2∧i2<(since2.length:Int))) (
 bif (bif (decide (0≤r_7))then(decide (r_7≤(if next_1<c2 then c2 else next_1)))else false)then
 bW (((c03.length+[(⟨(if next_1<c2 then c2 else next_1),i2⟩:Event)].length)*16≤140737488355328)∧(c03.length+[(⟨(if next_1<c2 then c2 else next_1),i2⟩:Event)].length≤4611686018427387904)) (
 bW ((0:Int)≤i2∧i2<(c43.length:Int)) (
 some (.next ((c03++[(⟨(if next_1<c2 then c2 else next_1),i2⟩:Event)]),(c43.set i2.toNat false),(IntKind.wrap .i64 (i2+1))))))
 else
 some (.next (c03,c43,(IntKind.wrap .i64 (i2+1)))))
 else
 some (.done (.brk (c03,c43)))
def iE (p:ah) (bus:Int) (r_1:State):((List Event) × Int × Int × (List Bool) × (List Int) × (List Int))→Option (aM ((List Event) × Int × Int × (List Bool) × (List Int) × (List Int)) (Ex Unit (aj × Int))):=
 fun zz=>match zz with
 |(c0,c2,c3,c4,since,before)=>
 (nU p (⟨c4,r_1.locked,r_1.badLink,r_1.on_,r_1.badSource,r_1.earthed,r_1.badBus⟩:State) bus).bind fun r_2=>
 (mI p r_2.1).bind fun r_3=>
 Option.bind (ay (lQ r_2) FUEL (0,0)) fun o=>match o with
 | .ret v=>some v
 | .brk total1=>
 bif (decide (total1=0))then
 some (.done (.ret ((⟨c0,true,c2,c3,(⟨c4,r_1.locked,r_1.badLink,r_1.on_,r_1.badSource,r_1.earthed,r_1.badBus⟩:State)⟩:aj),0)))
 else
 Option.bind (ay (jG p r_1 c2 c4 before r_3) FUEL (since,(-1),0)) fun o=>match o with
 | .ret v=>some v
 | .brk (since2,next_1)=>
 bif (decide (next_1<0))then
 some (.done (.ret ((⟨c0,false,c2,c3,(⟨c4,r_1.locked,r_1.badLink,r_1.on_,r_1.badSource,r_1.earthed,r_1.badBus⟩:State)⟩:aj),0)))
 else
 bW (1000≠(0:Int)) (
 bif (decide ((IntKind.wrap .i64 ((IntKind.wrap .i64 (Int.tdiv (IntKind.wrap .i64 (total1*total1)) 1000))*1000))<(IntKind.wrap .i64 (total1*total1))))then
 Option.bind (ay (jK p r_1 c2 r_3 since2 next_1) FUEL (c0,c4,0)) fun o=>match o with
 | .ret v=>some v
 | .brk (c02,c42)=>
 some (.next (c02,(if next_1<c2 then c2 else next_1),(IntKind.wrap .i64 (c3+(IntKind.wrap .i64 ((IntKind.wrap .i64 ((IntKind.wrap .i64 (Int.tdiv (IntKind.wrap .i64 (total1*total1)) 1000))+1))*(IntKind.wrap .i64 ((if next_1<c2 then c2 else next_1) - c2)))))),c42,since2,r_3.1))
 else
 Option.bind (ay (jI p r_1 c2 r_3 since2 next_1) FUEL (c0,c4,0)) fun o=>match o with
 | .ret v=>some v
 | .brk (c04,c44)=>
 some (.next (c04,(if next_1<c2 then c2 else next_1),(IntKind.wrap .i64 (c3+(IntKind.wrap .i64 ((IntKind.wrap .i64 (Int.tdiv (IntKind.wrap .i64 (total1*total1)) 1000))*(IntKind.wrap .i64 ((if next_1<c2 then c2 else next_1) - c2)))))),c44,since2,r_3.1)))
def eZ (p:ah) (s_:State) (bus:Int):Option (aj × Int):=
 (fT p s_).bind fun r_=>
 bif (!decide (r_=0))then
 some ((⟨([]:List Event),false,0,0,(⟨([]:List Bool),([]:List Bool),([]:List Bool),([]:List Bool),([]:List Bool),([]:List Bool),([]:List Bool)⟩:State)⟩:aj),r_)
 else
 bif (bif (decide (bus<0))then true else(decide (p.buses≤bus)))then
 some ((⟨([]:List Event),false,0,0,(⟨([]:List Bool),([]:List Bool),([]:List Bool),([]:List Bool),([]:List Bool),([]:List Bool),([]:List Bool)⟩:State)⟩:aj),1)
 else
 (gX s_).bind fun r_1=>
 bW (((0:Int)≤(p.links.length:Int))∧((8:Int)*(p.links.length:Int)≤281474976710656)∧(((p.links.length:Int):Int)≤9223372036854775807)) (
 bW (((0:Int)≤(p.links.length:Int))∧((8:Int)*(p.links.length:Int)≤281474976710656)∧(((p.links.length:Int):Int)≤9223372036854775807)) (
 Option.bind (ay (iE p bus r_1) FUEL (([]:List Event),0,0,r_1.closed,(List.replicate ((p.links.length:Int).toNat) (0:Int)),(List.replicate ((p.links.length:Int).toNat) (0:Int)))) fun o=>match o with
 | .ret v=>some v
 | .brk _=>none))
def jo (a:(List Bool)) (b:(List Bool)):Int→Option (aM Int (Ex Unit Bool)):=
 fun i=>
 bif (decide (i<(a.length:Int)))then
 bW (((0:Int)≤i∧i<(a.length:Int))∧((0:Int)≤i∧i<(b.length:Int))) (
 bif (!((at' a i.toNat)==(at' b i.toNat)))then
 some (.done (.ret false))
 else
 some (.next (IntKind.wrap .i64 (i+1))))
 else
 some (.done (.brk ()))
def dF (a:(List Bool)) (b:(List Bool)):Option Bool:=
 bif (!decide ((a.length:Int)=(b.length:Int)))then
 some false
 else
 Option.bind (ay (jo a b) FUEL (0)) fun o=>match o with
 | .ret v=>some v
 | .brk _=>
 some true
def gW (a:State) (b:State):Option Bool:=
 (dF a.closed b.closed).bind fun r_=>
 (bif gB [(r_,true)]then dF a.locked b.locked else some default).bind fun r_1=>
 (bif gB [((bif r_ then r_1 else false),true)]then dF a.badLink b.badLink else some default).bind fun r_2=>
 (bif gB [((bif (bif r_ then r_1 else false)then r_2 else false),true)]then dF a.on_ b.on_ else some default).bind fun r_3=>
 (bif gB [((bif (bif (bif r_ then r_1 else false)then r_2 else false)then r_3 else false),true)]then dF a.badSource b.badSource else some default).bind fun r_4=>
 (bif gB [((bif (bif (bif (bif r_ then r_1 else false)then r_2 else false)then r_3 else false)then r_4 else false),true)]then dF a.earthed b.earthed else some default).bind fun r_5=>
 (bif gB [((bif (bif (bif (bif (bif r_ then r_1 else false)then r_2 else false)then r_3 else false)then r_4 else false)then r_5 else false),true)]then dF a.badBus b.badBus else some default).bind fun r_6=>
 some (bif (bif (bif (bif (bif (bif r_ then r_1 else false)then r_2 else false)then r_3 else false)then r_4 else false)then r_5 else false)then r_6 else false)
def mP (a:bg) (b:aj):Int→Option (aM Int (Ex Unit Bool)):=
 fun i=>
 bif (decide (i<(a.events.length:Int)))then
 bW (((0:Int)≤i∧i<(a.events.length:Int))∧((0:Int)≤i∧i<(b.events.length:Int))) (
 bif (!((decide (((at' a.events i.toNat).millis)=((at' b.events i.toNat).millis))) && ((decide (((at' a.events i.toNat).link)=((at' b.events i.toNat).link))) && true)))then
 some (.done (.ret false))
 else
 some (.next (IntKind.wrap .i64 (i+1))))
 else
 some (.done (.brk ()))
def mG (a:bg) (b:aj):Option Bool:=
 (bif gB [((bif (bif (bif (!decide ((a.events.length:Int)=(b.events.length:Int)))then true else(!(a.cleared==b.cleared)))then true else(!decide (a.millis=b.millis)))then true else(!decide (a.energy=b.energy))),false)]then gW a.state b.state else some default).bind fun r_=>
 bif (bif (bif (bif (bif (!decide ((a.events.length:Int)=(b.events.length:Int)))then true else(!(a.cleared==b.cleared)))then true else(!decide (a.millis=b.millis)))then true else(!decide (a.energy=b.energy)))then true else(!r_))then
 some false
 else
 Option.bind (ay (mP a b) FUEL (0)) fun o=>match o with
 | .ret v=>some v
 | .brk _=>
 some true
def iT (p:ah) (bus:Int) (r_:(aj × Int)):Int→Option (aM Int (Ex Unit (Bool × Int))):=
 fun i=>
 bif (decide (i<(r_.1.events.length:Int)))then
 bW (((0:Int)≤i∧i<(r_.1.events.length:Int))∧((0:Int)≤(at' r_.1.events i.toNat).link∧(at' r_.1.events i.toNat).link<(p.links.length:Int))) (
 bif (bif (!decide (((at' p.links (((at' r_.1.events i.toNat).link).toNat)).a)=bus))then(!decide (((at' p.links (((at' r_.1.events i.toNat).link).toNat)).b)=bus))else false)then
 some (.done (.ret (false,0)))
 else
 some (.next (IntKind.wrap .i64 (i+1))))
 else
 some (.done (.brk ()))
def iY (p:ah) (s_:State) (bus:Int):Option (Bool × Int):=
 (eZ p s_ bus).bind fun r_=>
 bif (bif (!decide (r_.2=0))then true else(!r_.1.cleared))then
 some (false,r_.2)
 else
 Option.bind (ay (iT p bus r_) FUEL (0)) fun o=>match o with
 | .ret v=>some v
 | .brk _=>
 some (true,0)
def jM (p:ah) (s_:State) (b:Int):((List Bool) × Int)→Option (aM ((List Bool) × Int) (Ex (List Bool) (aM ((List Bool) × Int) (Ex (List Bool) (List Bool))))):=
 fun zz=>match zz with
 |(out2,i)=>
 bif (decide (i<(p.links.length:Int)))then
 bW ((0:Int)≤i∧i<(p.links.length:Int)) (
 (dV p s_ i).bind fun r_=>
 bW ((gB [(r_,true)]=true→(0:Int)≤(at' p.links i.toNat).a∧(at' p.links i.toNat).a<(out2.length:Int))∧(gB [((at' out2 (((at' p.links i.toNat).a).toNat)),false),(r_,true)]=true→(0:Int)≤(at' p.links i.toNat).b∧(at' p.links i.toNat).b<(out2.length:Int))) (
 bif (bif r_ then(bif (at' out2 (((at' p.links i.toNat).a).toNat))then true else(at' out2 (((at' p.links i.toNat).b).toNat)))else false)then
 bW ((0:Int)≤(at' p.links i.toNat).a∧(at' p.links i.toNat).a<(out2.length:Int)) (
 bW ((0:Int)≤(at' p.links i.toNat).b∧(at' p.links i.toNat).b<((out2.set (((at' p.links i.toNat).a).toNat) true).length:Int)) (
 some (.next (((out2.set (((at' p.links i.toNat).a).toNat) true).set (((at' p.links i.toNat).b).toNat) true),(IntKind.wrap .i64 (i+1))))))
 else
 some (.next (out2,(IntKind.wrap .i64 (i+1))))))
 else
 some (.done (.brk out2))
def jF (p:ah) (s_:State) (b:Int):((List Bool) × Int)→Option (aM ((List Bool) × Int) (Ex (List Bool) (List Bool))):=
 fun zz=>match zz with
 |(out,n)=>
 bif (decide (n<p.buses))then
 Option.bind (ay (jM p s_ b) FUEL (out,0)) fun o=>match o with
 | .ret v=>some v
 | .brk out3=>
 some (.next (out3,(IntKind.wrap .i64 (n+1))))
 else
 some (.done (.brk out))
def kT (p:ah) (s_:State) (b:Int):Option (List Bool):=
 bW (((0:Int)≤p.buses)∧((1:Int)*p.buses≤281474976710656)∧((p.buses:Int)≤9223372036854775807)) (
 bW ((0:Int)≤b∧b<((List.replicate p.buses.toNat (false:Bool)).length:Int)) (
 Option.bind (ay (jF p s_ b) FUEL (((List.replicate p.buses.toNat (false:Bool)).set b.toNat true),0)) fun o=>match o with
 | .ret v=>some v
 | .brk out1=>
 some out1))
def jd (p:ah) (r_2:(List Bool)):((List Bool) × Int)→Option (aM ((List Bool) × Int) (Ex (List Bool) (aM ((List Bool) × Int) (Ex (List Bool) ((List Bool) × Int))))):=
 fun zz=>match zz with
 |(out2,b)=>
 bif (decide (b<p.buses))then
 bW (((0:Int)≤b∧b<(out2.length:Int))∧(gB [((at' out2 b.toNat),false)]=true→(0:Int)≤b∧b<(r_2.length:Int))) (
 some (.next ((out2.set b.toNat (bif (at' out2 b.toNat)then true else(at' r_2 b.toNat))),(IntKind.wrap .i64 (b+1)))))
 else
 some (.done (.brk out2))
def ji (p:ah) (s_:State):((List Bool) × Int)→Option (aM ((List Bool) × Int) (Ex (List Bool) ((List Bool) × Int))):=
 fun zz=>match zz with
 |(out,k)=>
 bif (decide (k<(p.sources.length:Int)))then
 (ni p s_ k).bind fun r_1=>
 bif (!r_1)then
 some (.next (out,(IntKind.wrap .i64 (k+1))))
 else
 (kT p s_ ((at' p.sources k.toNat).bus)).bind fun r_2=>
 bW ((0:Int)≤k∧k<(p.sources.length:Int)) (
 Option.bind (ay (jd p r_2) FUEL (out,0)) fun o=>match o with
 | .ret v=>some v
 | .brk out3=>
 some (.next (out3,(IntKind.wrap .i64 (k+1)))))
 else
 some (.done (.brk out))
def oM (p:ah) (s_:State):Option ((List Bool) × Int):=
 (fT p s_).bind fun r_=>
 bif (!decide (r_=0))then
 some (([]:List Bool),r_)
 else
 bW (((0:Int)≤p.buses)∧((1:Int)*p.buses≤281474976710656)∧((p.buses:Int)≤9223372036854775807)) (
 Option.bind (ay (ji p s_) FUEL ((List.replicate p.buses.toNat (false:Bool)),0)) fun o=>match o with
 | .ret v=>some v
 | .brk out1=>
 some (out1,0))
def jN (p:ah) (r_:((List Bool) × Int)):((List ax) × Int)→Option (aM ((List ax) × Int) (Ex (List ax) ((List ax) × Int))):=
 fun zz=>match zz with
 |(out,r_1)=>
 bif (decide (r_1<(p.racks.length:Int)))then
 bW ((0:Int)≤r_1∧r_1<(p.racks.length:Int)) (
 bW (((0:Int)≤((at' p.racks r_1.toNat).feeds).e0∧((at' p.racks r_1.toNat).feeds).e0<(r_.1.length:Int))∧(gB [((decide (0≤(((at' p.racks r_1.toNat).feeds).e1))),true)]=true→(0:Int)≤(if((at' p.racks r_1.toNat).feeds).e1<0 then 0 else((at' p.racks r_1.toNat).feeds).e1)∧(if((at' p.racks r_1.toNat).feeds).e1<0 then 0 else((at' p.racks r_1.toNat).feeds).e1)<(r_.1.length:Int))∧((out.length+[(⟨(at' r_.1 ((((at' p.racks r_1.toNat).feeds).e0).toNat)),(bif (decide (0≤(((at' p.racks r_1.toNat).feeds).e1)))then(at' r_.1 ((if((at' p.racks r_1.toNat).feeds).e1<0 then 0 else((at' p.racks r_1.toNat).feeds).e1).toNat))else false)⟩:ax)].length)*2≤140737488355328)∧(out.length+[(⟨(at' r_.1 ((((at' p.racks r_1.toNat).feeds).e0).toNat)),(bif (decide (0≤(((at' p.racks r_1.toNat).feeds).e1)))then(at' r_.1 ((if((at' p.racks r_1.toNat).feeds).e1<0 then 0 else((at' p.racks r_1.toNat).feeds).e1).toNat))else false)⟩:ax)].length≤4611686018427387904)) (
 some (.next ((out++[(⟨(at' r_.1 ((((at' p.racks r_1.toNat).feeds).e0).toNat)),(bif (decide (0≤(((at' p.racks r_1.toNat).feeds).e1)))then(at' r_.1 ((if((at' p.racks r_1.toNat).feeds).e1<0 then 0 else((at' p.racks r_1.toNat).feeds).e1).toNat))else false)⟩:ax)]),(IntKind.wrap .i64 (r_1+1))))))
 else
 some (.done (.brk out))
def qE (p:ah) (s_:State):Option ((List ax) × Int):=
 (oM p s_).bind fun r_=>
 bif (!decide (r_.2=0))then
 some (([]:List ax),r_.2)
 else
 Option.bind (ay (jN p r_) FUEL (([]:List ax),0)) fun o=>match o with
 | .ret v=>some v
 | .brk out1=>
 some (out1,0)
def jf (p:ah) (r_1:((List ax) × Int)) (r_2:((List ax) × Int)):((List Int) × Int)→Option (aM ((List Int) × Int) (Ex (List Int) ((List Int) × Int))):=
 fun zz=>match zz with
 |(out,r_3)=>
 bif (decide (r_3<(p.racks.length:Int)))then
 bW (((0:Int)≤r_3∧r_3<(r_1.1.length:Int))∧(gB [((at' r_1.1 r_3.toNat).e0,false)]=true→(0:Int)≤r_3∧r_3<(r_1.1.length:Int))∧(gB [((bif (at' r_1.1 r_3.toNat).e0 then true else(at' r_1.1 r_3.toNat).e1),true)]=true→(0:Int)≤r_3∧r_3<(r_2.1.length:Int))∧(gB [((bif (bif (at' r_1.1 r_3.toNat).e0 then true else(at' r_1.1 r_3.toNat).e1)then(!((at' r_2.1 r_3.toNat).e0))else false),true)]=true→(0:Int)≤r_3∧r_3<(r_2.1.length:Int))) (
 bif (bif (bif (bif (at' r_1.1 r_3.toNat).e0 then true else(at' r_1.1 r_3.toNat).e1)then(!((at' r_2.1 r_3.toNat).e0))else false)then(!((at' r_2.1 r_3.toNat).e1))else false)then
 bW (((out.length+[r_3].length)*8≤140737488355328)∧(out.length+[r_3].length≤4611686018427387904)) (
 some (.next ((out++[r_3]),(IntKind.wrap .i64 (r_3+1)))))
 else
 some (.next (out,(IntKind.wrap .i64 (r_3+1)))))
 else
 some (.done (.brk out))
def l8 (p:ah) (s_:State) (bus:Int):Option ((List Int) × Int):=
 (eZ p s_ bus).bind fun r_=>
 bif (!decide (r_.2=0))then
 some (([]:List Int),r_.2)
 else
 bif (!r_.1.cleared)then
 some (([]:List Int),4)
 else
 bW ((0:Int)≤bus∧bus<(r_.1.state.badBus.length:Int)) (
 (qE p s_).bind fun r_1=>
 (qE p (⟨r_.1.state.closed,r_.1.state.locked,r_.1.state.badLink,r_.1.state.on_,r_.1.state.badSource,r_.1.state.earthed,(r_.1.state.badBus.set bus.toNat true)⟩:State)).bind fun r_2=>
 Option.bind (ay (jf p r_1 r_2) FUEL (([]:List Int),0)) fun o=>match o with
 | .ret v=>some v
 | .brk out1=>
 some (out1,0))
def iU (a:(List Source)) (b:(List Source)):Int→Option (aM Int (Ex Unit Bool)):=
 fun i=>
 bif (decide (i<(a.length:Int)))then
 bW (((0:Int)≤i∧i<(a.length:Int))∧((0:Int)≤i∧i<(b.length:Int))) (
 bif (!((decide (((at' a i.toNat).bus)=((at' b i.toNat).bus))) && ((decide (((at' a i.toNat).kind)=((at' b i.toNat).kind))) && ((decide (((at' a i.toNat).power)=((at' b i.toNat).power))) && ((decide (((at' a i.toNat).sync)=((at' b i.toNat).sync))) && ((decide (((at' a i.toNat).bK)=((at' b i.toNat).bK))) && true))))))then
 some (.done (.ret false))
 else
 some (.next (IntKind.wrap .i64 (i+1))))
 else
 some (.done (.brk ()))
def kD (a:(List Source)) (b:(List Source)):Option Bool:=
 bif (!decide ((a.length:Int)=(b.length:Int)))then
 some false
 else
 Option.bind (ay (iU a b) FUEL (0)) fun o=>match o with
 | .ret v=>some v
 | .brk _=>
 some true
def jX (a:(List bP)) (b:(List bP)):Int→Option (aM Int (Ex Unit Bool)):=
 fun i=>
 bif (decide (i<(a.length:Int)))then
 bW (((0:Int)≤i∧i<(a.length:Int))∧((0:Int)≤i∧i<(b.length:Int))) (
 bif (!((decide (((at' a i.toNat).amps)=((at' b i.toNat).amps))) && ((decide (((at' a i.toNat).millis)=((at' b i.toNat).millis))) && true)))then
 some (.done (.ret false))
 else
 some (.next (IntKind.wrap .i64 (i+1))))
 else
 some (.done (.brk ()))
def mV (a:(List bP)) (b:(List bP)):Option Bool:=
 bif (!decide ((a.length:Int)=(b.length:Int)))then
 some false
 else
 Option.bind (ay (jX a b) FUEL (0)) fun o=>match o with
 | .ret v=>some v
 | .brk _=>
 some true
def oJ (a:Link) (b:Link):Option Bool:=
 (bif gB [((bif (bif (bif (bif (decide (a.a=b.a))then(decide (a.b=b.b))else false)then(decide (a.kind=b.kind))else false)then(decide (a.most=b.most))else false)then(decide (a.bK=b.bK))else false),true)]then mV a.trip b.trip else some default).bind fun r_=>
 some (bif (bif (bif (bif (bif (decide (a.a=b.a))then(decide (a.b=b.b))else false)then(decide (a.kind=b.kind))else false)then(decide (a.most=b.most))else false)then(decide (a.bK=b.bK))else false)then r_ else false)
def jR (a:(List Link)) (b:(List Link)):Int→Option (aM Int (Ex Unit Bool)):=
 fun i=>
 bif (decide (i<(a.length:Int)))then
 (oJ (at' a i.toNat) (at' b i.toNat)).bind fun r_=>
 bW (((0:Int)≤i∧i<(a.length:Int))∧((0:Int)≤i∧i<(b.length:Int))) (
 bif (!r_)then
 some (.done (.ret false))
 else
 some (.next (IntKind.wrap .i64 (i+1))))
 else
 some (.done (.brk ()))
def mK (a:(List Link)) (b:(List Link)):Option Bool:=
 bif (!decide ((a.length:Int)=(b.length:Int)))then
 some false
 else
 Option.bind (ay (jR a b) FUEL (0)) fun o=>match o with
 | .ret v=>some v
 | .brk _=>
 some true
def jT (a:(List aJ)) (b:(List aJ)):Int→Option (aM Int (Ex Unit Bool)):=
 fun i=>
 bif (decide (i<(a.length:Int)))then
 bW (((0:Int)≤i∧i<(a.length:Int))∧((0:Int)≤i∧i<(b.length:Int))) (
 bif (!((decide ((((at' a i.toNat).feeds).e0)=(((at' b i.toNat).feeds).e0))) && ((decide ((((at' a i.toNat).feeds).e1)=(((at' b i.toNat).feeds).e1))) && ((decide (((at' a i.toNat).power)=((at' b i.toNat).power))) && ((decide (((at' a i.toNat).paths)=((at' b i.toNat).paths))) && true)))))then
 some (.done (.ret false))
 else
 some (.next (IntKind.wrap .i64 (i+1))))
 else
 some (.done (.brk ()))
def mQ (a:(List aJ)) (b:(List aJ)):Option Bool:=
 bif (!decide ((a.length:Int)=(b.length:Int)))then
 some false
 else
 Option.bind (ay (jT a b) FUEL (0)) fun o=>match o with
 | .ret v=>some v
 | .brk _=>
 some true
def mW (a:ah) (b:ah):Option Bool:=
 (bif gB [((decide (a.buses=b.buses)),true)]then kD a.sources b.sources else some default).bind fun r_=>
 (bif gB [((bif (decide (a.buses=b.buses))then r_ else false),true)]then mK a.links b.links else some default).bind fun r_1=>
 (bif gB [((bif (bif (decide (a.buses=b.buses))then r_ else false)then r_1 else false),true)]then mQ a.racks b.racks else some default).bind fun r_2=>
 some (bif (bif (bif (decide (a.buses=b.buses))then r_ else false)then r_1 else false)then r_2 else false)
def dQ  :((List Bool) × Int)→Option (aM ((List Bool) × Int) (Ex Unit (aM Int (Ex Unit Bool)))):=
 fun zz=>match zz with
 |(a5,i)=>
 bif (decide (i<(a5.length:Int)))then
 bW ((0:Int)≤i∧i<(a5.length:Int)) (
 some (.next ((a5.set i.toNat (!(at' a5 i.toNat))),(IntKind.wrap .i64 (i+1)))))
 else
 some (.done (.brk ()))
def gQ (p:ah) (s_:State) (bus:Int) (r_2:ah) (r_3:State) (r_4:Int):Int→Option (aM Int (Ex Unit Bool)):=
 fun t34=>
 bif (decide (t34<([bus,r_4].length:Int)))then
 bW ((0:Int)≤t34∧t34<([bus,r_4].length:Int)) (
 (dG r_2 r_3 (at' [bus,r_4] t34.toNat)).bind fun r_5=>
 (eZ p s_ (at' [bus,r_4] t34.toNat)).bind fun r_6=>
 (bif gB [((!decide (r_5.2=r_6.2)),false)]then mG r_5.1 r_6.1 else some default).bind fun r_7=>
 bif (bif (!decide (r_5.2=r_6.2))then true else(!r_7))then
 some (.done (.ret false))
 else
 Option.bind (ay dQ FUEL (r_5.1.state.locked,0)) fun o=>match o with
 | .ret v=>some v
 | .brk _=>
 (fA r_2 r_3 (at' [bus,r_4] t34.toNat)).bind fun r_8=>
 (iY p s_ (at' [bus,r_4] t34.toNat)).bind fun r_9=>
 bif (bif (!decide (r_8.2=r_9.2))then true else(!(r_8.1==r_9.1)))then
 some (.done (.ret false))
 else
 (kH r_2 r_3 (at' [bus,r_4] t34.toNat)).bind fun r_10=>
 (l8 p s_ (at' [bus,r_4] t34.toNat)).bind fun r_11=>
 (bif gB [((!decide (r_10.2=r_11.2)),false)]then iV r_10.1 r_11.1 else some default).bind fun r_12=>
 bif (bif (!decide (r_10.2=r_11.2))then true else(!r_12))then
 some (.done (.ret false))
 else
 some (.next (IntKind.wrap .i64 (t34+1))))
 else
 some (.done (.brk ()))
def jl (p:ah) (s_:State) (bus:Int):Option Bool:=
 (uZ p).bind fun r_=>
 bif r_ then
 (qa).bind fun r_1=>
 some r_1
 else
 (mO p).bind fun r_2=>
 (gX s_).bind fun r_3=>
 (xP bus p.buses).bind fun r_4=>
 Option.bind (ay (gQ p s_ bus r_2 r_3 r_4) FUEL (0)) fun o=>match o with
 | .ret v=>some v
 | .brk _=>
 (mW p r_2).bind fun r_13=>
 (bif gB [(r_13,true)]then gW s_ r_3 else some default).bind fun r_14=>
 (bif gB [((bif r_13 then r_14 else false),true)]then qa else some default).bind fun r_15=>
 some (bif (bif r_13 then r_14 else false)then r_15 else false)
end Sg
