import Derived.Test.YtpndenfhglaikaaGreatLd
set_option linter.all false
namespace Sg
open Go
structure Source where
 bus:Int
 kind:Int
 power:Int
 sync:Int
 aX:Int
instance:Inhabited Source:=⟨⟨default,default,default,default,default⟩⟩
def Source.cell (x:Source):Nat→DV
 |0=>(.int .i64 x.bus)
 |1=>(.int .i64 x.kind)
 |2=>(.int .i64 x.power)
 |3=>(.int .i64 x.sync)
 |4=>(.int .i64 x.aX)
 |_=> .nilp
structure aF where
 amps:Int
 millis:Int
instance:Inhabited aF:=⟨⟨default,default⟩⟩
def aF.cell (x:aF):Nat→DV
 |0=>(.int .i64 x.amps)
 |1=>(.int .i64 x.millis)
 |_=> .nilp
structure Link where
 a:Int
 b:Int
 kind:Int
 most:Int
 aX:Int
 trip:(List aF)
instance:Inhabited Link:=⟨⟨default,default,default,default,default,default⟩⟩
def Link.cell (x:Link):Nat→DV
 |0=>(.int .i64 x.a)
 |1=>(.int .i64 x.b)
 |2=>(.int .i64 x.kind)
 |3=>(.int .i64 x.most)
 |4=>(.int .i64 x.aX)
 |5=>(aR none 2 aF.cell x.trip)
 |_=> .nilp
structure aM where
 e0:Int
 e1:Int
instance:Inhabited aM:=⟨⟨default,default⟩⟩
def aM.cell (x:aM):Nat→DV
 |0=>(.int .i64 x.e0)
 |1=>(.int .i64 x.e1)
 |_=> .nilp
structure aJ where
 feeds:aM
 power:Int
 paths:Int
instance:Inhabited aJ:=⟨⟨default,default,default⟩⟩
def aJ.cell (x:aJ):Nat→DV
 |0=>(.int .i64 x.feeds.e0)
 |1=>(.int .i64 x.feeds.e1)
 |2=>(.int .i64 x.power)
 |3=>(.int .i64 x.paths)
 |_=> .nilp
structure ai where
 buses:Int
 sources:(List Source)
 links:(List Link)
 racks:(List aJ)
instance:Inhabited ai:=⟨⟨default,default,default,default⟩⟩
def ai.cell (x:ai):Nat→DV
 |0=>(.int .i64 x.buses)
 |1=>(aR none 5 Source.cell x.sources)
 |2=>(aR none 6 Link.cell x.links)
 |3=>(aR none 4 aJ.cell x.racks)
 |_=> .nilp
structure State where
 closed:(List Bool)
 locked:(List Bool)
 badLink:(List Bool)
 on_:(List Bool)
 badSource:(List Bool)
 earthed:(List Bool)
 badBus:(List Bool)
instance:Inhabited State:=⟨⟨default,default,default,default,default,default,default⟩⟩
def State.cell (x:State):Nat→DV
 |0=>(aR none 1 af x.closed)
 |1=>(aR none 1 af x.locked)
 |2=>(aR none 1 af x.badLink)
 |3=>(aR none 1 af x.on_)
 |4=>(aR none 1 af x.badSource)
 |5=>(aR none 1 af x.earthed)
 |6=>(aR none 1 af x.badBus)
 |_=> .nilp
structure bS where
 l:(List Bool)
 n:Int
instance:Inhabited bS:=⟨⟨default,default⟩⟩
def bS.cell (x:bS):Nat→DV
 |0=>(aR none 1 af x.l)
 |1=>(.int .i64 x.n)
 |_=> .nilp
structure Way where
 there:Bool
 aX:Int
 links:(List Int)
instance:Inhabited Way:=⟨⟨default,default,default⟩⟩
def Way.cell (x:Way):Nat→DV
 |0=>(.bool x.there)
 |1=>(.int .i64 x.aX)
 |2=>(aR none 1 (aL .i64) x.links)
 |_=> .nilp
structure Short where
 source:Int
 aX:Int
 amps:Int
 links:(List Int)
instance:Inhabited Short:=⟨⟨default,default,default,default⟩⟩
def Short.cell (x:Short):Nat→DV
 |0=>(.int .i64 x.source)
 |1=>(.int .i64 x.aX)
 |2=>(.int .i64 x.amps)
 |3=>(aR none 1 (aL .i64) x.links)
 |_=> .nilp
structure Event where
 millis:Int
 link:Int
instance:Inhabited Event:=⟨⟨default,default⟩⟩
def Event.cell (x:Event):Nat→DV
 |0=>(.int .i64 x.millis)
 |1=>(.int .i64 x.link)
 |_=> .nilp
structure aA where
 events:(List Event)
 cleared:Bool
 millis:Int
 energy:Int
 state:State
instance:Inhabited aA:=⟨⟨default,default,default,default,default⟩⟩
def aA.cell (x:aA):Nat→DV
 |0=>(aR none 2 Event.cell x.events)
 |1=>(.bool x.cleared)
 |2=>(.int .i64 x.millis)
 |3=>(.int .i64 x.energy)
 |4=>(aR none 1 af x.state.closed)
 |5=>(aR none 1 af x.state.locked)
 |6=>(aR none 1 af x.state.badLink)
 |7=>(aR none 1 af x.state.on_)
 |8=>(aR none 1 af x.state.badSource)
 |9=>(aR none 1 af x.state.earthed)
 |10=>(aR none 1 af x.state.badBus)
 |_=> .nilp
structure Machine where
 clearing:aA
 p:ai
 bus:Int
 amps:(List Int)
 total:Int
 since:(List (Int × Int))
 now:Int
instance:Inhabited Machine:=⟨⟨default,default,default,default,default,default,default⟩⟩
def Machine.cell (x:Machine):Nat→DV
 |0=>(aR none 2 Event.cell x.clearing.events)
 |1=>(.bool x.clearing.cleared)
 |2=>(.int .i64 x.clearing.millis)
 |3=>(.int .i64 x.clearing.energy)
 |4=>(aR none 1 af x.clearing.state.closed)
 |5=>(aR none 1 af x.clearing.state.locked)
 |6=>(aR none 1 af x.clearing.state.badLink)
 |7=>(aR none 1 af x.clearing.state.on_)
 |8=>(aR none 1 af x.clearing.state.badSource)
 |9=>(aR none 1 af x.clearing.state.earthed)
 |10=>(aR none 1 af x.clearing.state.badBus)
 |11=>(.int .i64 x.p.buses)
 |12=>(aR none 5 Source.cell x.p.sources)
 |13=>(aR none 6 Link.cell x.p.links)
 |14=>(aR none 4 aJ.cell x.p.racks)
 |15=>(.int .i64 x.bus)
 |16=>(aR none 1 (aL .i64) x.amps)
 |17=>(.int .i64 x.total)
 |18=> .nilp
 |19=>(.int .i64 x.now)
 |_=> .nilp
structure Part where
 kind:Int
 index:Int
instance:Inhabited Part:=⟨⟨default,default⟩⟩
def Part.cell (x:Part):Nat→DV
 |0=>(.int .i64 x.kind)
 |1=>(.int .i64 x.index)
 |_=> .nilp
structure aW where
 head:(List (Int × Int))
instance:Inhabited aW:=⟨⟨default⟩⟩
def aW.cell (x:aW):Nat→DV
 |0=> .nilp
 |_=> .nilp
structure aN where
 buses:(List Int)
 sources:(List Int)
instance:Inhabited aN:=⟨⟨default,default⟩⟩
def aN.cell (x:aN):Nat→DV
 |0=>(aR none 1 (aL .i64) x.buses)
 |1=>(aR none 1 (aL .i64) x.sources)
 |_=> .nilp
structure aI where
 e0:Bool
 e1:Bool
instance:Inhabited aI:=⟨⟨default,default⟩⟩
def aI.cell (x:aI):Nat→DV
 |0=>(.bool x.e0)
 |1=>(.bool x.e1)
 |_=> .nilp
structure ah where
 events:(List Event)
 cleared:Bool
 millis:Int
 energy:Int
 state:State
instance:Inhabited ah:=⟨⟨default,default,default,default,default⟩⟩
def ah.cell (x:ah):Nat→DV
 |0=>(aR none 2 Event.cell x.events)
 |1=>(.bool x.cleared)
 |2=>(.int .i64 x.millis)
 |3=>(.int .i64 x.energy)
 |4=>(aR none 1 af x.state.closed)
 |5=>(aR none 1 af x.state.locked)
 |6=>(aR none 1 af x.state.badLink)
 |7=>(aR none 1 af x.state.on_)
 |8=>(aR none 1 af x.state.badSource)
 |9=>(aR none 1 af x.state.earthed)
 |10=>(aR none 1 af x.state.badBus)
 |_=> .nilp
def aN.ev (x:aN):Nat→EV
 |0=> .row 3 1 x.buses.length (au (aL .i64) x.buses)
 |1=> .row 3 1 x.sources.length (au (aL .i64) x.sources)
 |_=> .d .nilp
def mO (x:Link):Int→Option (aZ Int (Ex Unit Bool)):=
 fun i=>
 bif (decide (i<(x.trip.length:Int)))then
 bB ((0:Int)≤i∧i<(x.trip.length:Int)) (
 bif (bif (bif (bif (decide (((at' x.trip i.toNat).amps)<1))then true else(decide (1000000<((at' x.trip i.toNat).amps))))then true else(decide (((at' x.trip i.toNat).millis)<1)))then true else(decide (100000<((at' x.trip i.toNat).millis))))then
 some (.done (.ret false))
 else
 bB ((gB [((decide (0<i)),true)]=true→(0:Int)≤(IntKind.wrap .i64 (i - 1))∧(IntKind.wrap .i64 (i - 1))<(x.trip.length:Int))∧(gB [((decide (((at' x.trip i.toNat).amps)≤((at' x.trip ((IntKind.wrap .i64 (i - 1)).toNat)).amps))),false),((decide (0<i)),true)]=true→(0:Int)≤(IntKind.wrap .i64 (i - 1))∧(IntKind.wrap .i64 (i - 1))<(x.trip.length:Int))) (
 bif (bif (decide (0<i))then(bif (decide (((at' x.trip i.toNat).amps)≤((at' x.trip ((IntKind.wrap .i64 (i - 1)).toNat)).amps)))then true else(decide (((at' x.trip ((IntKind.wrap .i64 (i - 1)).toNat)).millis)≤((at' x.trip i.toNat).millis))))else false)then
 some (.done (.ret false))
 else
 some (.next (IntKind.wrap .i64 (i+1)))))
 else
 some (.done (.brk ()))
def qB (p:ai) (x:Link):Option Bool:=
 bif (bif (bif (bif (bif (bif (bif (bif (bif (bif (bif (decide (x.a<0))then true else(decide (p.buses≤x.a)))then true else(decide (x.b<0)))then true else(decide (p.buses≤x.b)))then true else(decide (x.a=x.b)))then true else(decide (x.kind<1)))then true else(decide (3<x.kind)))then true else(decide (x.most<1)))then true else(decide (100000<x.most)))then true else(decide (x.aX<10)))then true else(decide (100000<x.aX)))then
 some false
 else
 bif (bif (decide (6<(x.trip.length:Int)))then true else(bif (decide (0<(x.trip.length:Int)))then(!decide (x.kind=3))else false))then
 some false
 else
 Option.bind (av (mO x) FUEL (0)) fun o=>match o with
 | .ret v=>some v
 | .brk _=>
 some true
def lQ (p:ai):Int→Option (aZ Int (Ex Unit Int)):=
 fun i=>
 bif (decide (i<(p.sources.length:Int)))then
 bB ((0:Int)≤i∧i<(p.sources.length:Int)) (
 bif (bif (bif (bif (bif (bif (bif (bif (bif (bif (decide (((at' p.sources i.toNat).bus)<0))then true else(decide (p.buses≤((at' p.sources i.toNat).bus))))then true else(decide (((at' p.sources i.toNat).kind)<1)))then true else(decide (3<((at' p.sources i.toNat).kind))))then true else(decide (((at' p.sources i.toNat).power)<1)))then true else(decide (100000<((at' p.sources i.toNat).power))))then true else(decide (((at' p.sources i.toNat).sync)<0)))then true else(decide (8<((at' p.sources i.toNat).sync))))then true else(decide (((at' p.sources i.toNat).aX)<10)))then true else(decide (100000<((at' p.sources i.toNat).aX))))then
 some (.done (.ret 11))
 else
 some (.next (IntKind.wrap .i64 (i+1))))
 else
 some (.done (.brk ()))
def l8 (p:ai):Int→Option (aZ Int (Ex Unit Int)):=
 fun i1=>
 bif (decide (i1<(p.links.length:Int)))then
 (qB p (at' p.links i1.toNat)).bind fun r_=>
 bB ((0:Int)≤i1∧i1<(p.links.length:Int)) (
 bif (!r_)then
 some (.done (.ret 12))
 else
 some (.next (IntKind.wrap .i64 (i1+1))))
 else
 some (.done (.brk ()))
def mg (p:ai):Int→Option (aZ Int (Ex Unit Int)):=
 fun i2=>
 bif (decide (i2<(p.racks.length:Int)))then
 bB ((0:Int)≤i2∧i2<(p.racks.length:Int)) (
 bif (decide ((((at' p.racks i2.toNat).feeds).e1)=(-1)))then
 bif (bif (bif (bif (bif (bif (bif (bif (bif (decide ((((at' p.racks i2.toNat).feeds).e0)<0))then true else(decide (p.buses≤(((at' p.racks i2.toNat).feeds).e0))))then true else(decide ((((at' p.racks i2.toNat).feeds).e1)<(-1))))then true else(decide (p.buses≤(((at' p.racks i2.toNat).feeds).e1))))then true else(decide ((((at' p.racks i2.toNat).feeds).e0)=(((at' p.racks i2.toNat).feeds).e1))))then true else(decide (((at' p.racks i2.toNat).power)<1)))then true else(decide (100000<((at' p.racks i2.toNat).power))))then true else(decide (((at' p.racks i2.toNat).paths)<0)))then true else(decide (1<((at' p.racks i2.toNat).paths))))then
 some (.done (.ret 13))
 else
 some (.next (IntKind.wrap .i64 (i2+1)))
 else
 bif (bif (bif (bif (bif (bif (bif (bif (bif (decide ((((at' p.racks i2.toNat).feeds).e0)<0))then true else(decide (p.buses≤(((at' p.racks i2.toNat).feeds).e0))))then true else(decide ((((at' p.racks i2.toNat).feeds).e1)<(-1))))then true else(decide (p.buses≤(((at' p.racks i2.toNat).feeds).e1))))then true else(decide ((((at' p.racks i2.toNat).feeds).e0)=(((at' p.racks i2.toNat).feeds).e1))))then true else(decide (((at' p.racks i2.toNat).power)<1)))then true else(decide (100000<((at' p.racks i2.toNat).power))))then true else(decide (((at' p.racks i2.toNat).paths)<0)))then true else(decide (2<((at' p.racks i2.toNat).paths))))then
 some (.done (.ret 13))
 else
 some (.next (IntKind.wrap .i64 (i2+1))))
 else
 some (.done (.brk ()))
def kK (p:ai):Option Int:=
 bif (bif (decide (p.buses<1))then true else(decide (24<p.buses)))then
 some 10
 else
 bif (decide (8<(p.sources.length:Int)))then
 some 11
 else
 Option.bind (av (lQ p) FUEL (0)) fun o=>match o with
 | .ret v=>some v
 | .brk _=>
 bif (decide (40<(p.links.length:Int)))then
 some 12
 else
 Option.bind (av (l8 p) FUEL (0)) fun o=>match o with
 | .ret v=>some v
 | .brk _=>
 bif (decide (24<(p.racks.length:Int)))then
 some 13
 else
 Option.bind (av (mg p) FUEL (0)) fun o=>match o with
 | .ret v=>some v
 | .brk _=>
 some 0
def oo (p:ai):Int→Option (aZ Int (Ex Unit Bool)):=
 fun i=>
 bif (decide (i<(p.links.length:Int)))then
 bB ((0:Int)≤i∧i<(p.links.length:Int)) (
 bif (decide (20<(((at' p.links i.toNat).trip).length:Int)))then
 some (.done (.ret true))
 else
 some (.next (IntKind.wrap .i64 (i+1))))
 else
 some (.done (.brk ()))
def pW (p:ai):Option Bool:=
 bif (bif (bif (decide (60<(p.sources.length:Int)))then true else(decide (60<(p.links.length:Int))))then true else(decide (60<(p.racks.length:Int))))then
 some true
 else
 Option.bind (av (oo p) FUEL (0)) fun o=>match o with
 | .ret v=>some v
 | .brk _=>
 (kK p).bind fun r_=>
 some (bif (decide (r_=0))then(bif (decide (10<p.buses))then true else(decide (16<(p.links.length:Int))))else false)
def aQ (n:Int) (first:Int) (last:Int):Option Bool:=
 some (bif (decide (first≤n))then(decide (n≤last))else false)
def qQ (p:ai):Option (Int × (List Source) × (List Link) × (List aJ)):=
 some (p.buses,p.sources,p.links,p.racks)
def uU (p:ai):Option (Int × (List Source) × (List Link) × (List aJ)):=
 some (p.buses,p.sources,p.links,p.racks)
def uZ (p:ai):Option (Int × (List Source) × (List Link) × (List aJ)):=
 some (p.buses,p.sources,p.links,p.racks)
def lT (x:Source) (x1:Int) (x11:(List Source)) (x12:(List Link)) (x13:(List aJ)):Option Bool:=
 (aQ x.bus 0 (IntKind.wrap .i64 (x1 - 1))).bind fun r_=>
 (bif gB [(r_,true)]then aQ x.kind 1 3 else some default).bind fun r_1=>
 (bif gB [((bif r_ then r_1 else false),true)]then aQ x.power 1 100000 else some default).bind fun r_2=>
 (bif gB [((bif (bif r_ then r_1 else false)then r_2 else false),true)]then aQ x.sync 0 8 else some default).bind fun r_3=>
 (bif gB [((bif (bif (bif r_ then r_1 else false)then r_2 else false)then r_3 else false),true)]then aQ x.aX 10 100000 else some default).bind fun r_4=>
 some (bif (bif (bif (bif r_ then r_1 else false)then r_2 else false)then r_3 else false)then r_4 else false)
def qR (x:Source) (x1:Int) (x11:(List Source)) (x12:(List Link)) (x13:(List aJ)):Option Bool:=
 (lT x x1 x11 x12 x13).bind fun r_=>
 some (!r_)
def kX (s_:(List Source)) (f_:Int) (f_1:(List Source)) (f_2:(List Link)) (f_3:(List aJ)):Int→Option (aZ Int (Ex Unit Int)):=
 fun t8=>
 bif (decide (t8<(s_.length:Int)))then
 (qR (at' s_ t8.toNat) f_ f_1 f_2 f_3).bind fun r_=>
 bB ((0:Int)≤t8∧t8<(s_.length:Int)) (
 bif r_ then
 some (.done (.ret t8))
 else
 some (.next (IntKind.wrap .i64 (t8+1))))
 else
 some (.done (.brk ()))
def ni (s_:(List Source)) (f_:Int) (f_1:(List Source)) (f_2:(List Link)) (f_3:(List aJ)):Option Int:=
 Option.bind (av (kX s_ f_ f_1 f_2 f_3) FUEL (0)) fun o=>match o with
 | .ret v=>some v
 | .brk _=>
 some (-1)
def iK (s_:(List Source)) (f_:Int) (f_1:(List Source)) (f_2:(List Link)) (f_3:(List aJ)):Option Bool:=
 (ni s_ f_ f_1 f_2 f_3).bind fun r_=>
 some (decide (0≤r_))
def qz (l:(List Source)) (most:Int) (right:Int) (right1:(List Source)) (right2:(List Link)) (right3:(List aJ)):Option Bool:=
 (bif gB [((decide ((l.length:Int)≤most)),true)]then iK l right right1 right2 right3 else some default).bind fun r_=>
 some (bif (decide ((l.length:Int)≤most))then(!r_)else false)
def lm (x:Link):Int→Option (aZ Int (Ex Unit Bool)):=
 fun t50=>
 bif (decide (t50<(x.trip.length:Int)))then
 bB ((0:Int)≤t50∧t50<(x.trip.length:Int)) (
 (aQ ((at' x.trip t50.toNat).amps) 1 1000000).bind fun r_5=>
 (bif gB [((!r_5),false)]then aQ ((at' x.trip t50.toNat).millis) 1 100000 else some default).bind fun r_6=>
 bB ((gB [((decide (0<t50)),true),((bif (!r_5)then true else(!r_6)),false)]=true→(0:Int)≤(IntKind.wrap .i64 (t50 - 1))∧(IntKind.wrap .i64 (t50 - 1))<(x.trip.length:Int))∧(gB [((decide (((at' x.trip t50.toNat).amps)≤((at' x.trip ((IntKind.wrap .i64 (t50 - 1)).toNat)).amps))),false),((decide (0<t50)),true),((bif (!r_5)then true else(!r_6)),false)]=true→(0:Int)≤(IntKind.wrap .i64 (t50 - 1))∧(IntKind.wrap .i64 (t50 - 1))<(x.trip.length:Int))) (
 bif (bif (bif (!r_5)then true else(!r_6))then true else(bif (decide (0<t50))then(bif (decide (((at' x.trip t50.toNat).amps)≤((at' x.trip ((IntKind.wrap .i64 (t50 - 1)).toNat)).amps)))then true else(decide (((at' x.trip ((IntKind.wrap .i64 (t50 - 1)).toNat)).millis)≤((at' x.trip t50.toNat).millis))))else false))then
 some (.done (.ret false))
 else
 some (.next (IntKind.wrap .i64 (t50+1)))))
 else
 some (.done (.brk ()))
def og (x:Link) (x1:Int) (x11:(List Source)) (x12:(List Link)) (x13:(List aJ)):Option Bool:=
 (aQ x.a 0 (IntKind.wrap .i64 (x1 - 1))).bind fun r_=>
 (bif gB [((!r_),false)]then aQ x.b 0 (IntKind.wrap .i64 (x1 - 1))else some default).bind fun r_1=>
 (bif gB [((bif (bif (!r_)then true else(!r_1))then true else(decide (x.a=x.b))),false)]then aQ x.kind 1 3 else some default).bind fun r_2=>
 (bif gB [((bif (bif (bif (!r_)then true else(!r_1))then true else(decide (x.a=x.b)))then true else(!r_2)),false)]then aQ x.most 1 100000 else some default).bind fun r_3=>
 (bif gB [((bif (bif (bif (bif (!r_)then true else(!r_1))then true else(decide (x.a=x.b)))then true else(!r_2))then true else(!r_3)),false)]then aQ x.aX 10 100000 else some default).bind fun r_4=>
 bif (bif (bif (bif (bif (bif (!r_)then true else(!r_1))then true else(decide (x.a=x.b)))then true else(!r_2))then true else(!r_3))then true else(!r_4))then
 some false
 else
 Option.bind (av (lm x) FUEL (0)) fun o=>match o with
 | .ret v=>some v
 | .brk _=>
 some (bif (decide ((x.trip.length:Int)≤6))then(bif (decide ((x.trip.length:Int)=0))then true else(decide (x.kind=3)))else false)
def oK (x:Link) (x1:Int) (x11:(List Source)) (x12:(List Link)) (x13:(List aJ)):Option Bool:=
 (og x x1 x11 x12 x13).bind fun r_=>
 some (!r_)
def jw (s_:(List Link)) (f_:Int) (f_1:(List Source)) (f_2:(List Link)) (f_3:(List aJ)):Int→Option (aZ Int (Ex Unit Int)):=
 fun t8=>
 bif (decide (t8<(s_.length:Int)))then
 (oK (at' s_ t8.toNat) f_ f_1 f_2 f_3).bind fun r_=>
 bB ((0:Int)≤t8∧t8<(s_.length:Int)) (
 bif r_ then
 some (.done (.ret t8))
 else
 some (.next (IntKind.wrap .i64 (t8+1))))
 else
 some (.done (.brk ()))
def kV (s_:(List Link)) (f_:Int) (f_1:(List Source)) (f_2:(List Link)) (f_3:(List aJ)):Option Int:=
 Option.bind (av (jw s_ f_ f_1 f_2 f_3) FUEL (0)) fun o=>match o with
 | .ret v=>some v
 | .brk _=>
 some (-1)
def fP (s_:(List Link)) (f_:Int) (f_1:(List Source)) (f_2:(List Link)) (f_3:(List aJ)):Option Bool:=
 (kV s_ f_ f_1 f_2 f_3).bind fun r_=>
 some (decide (0≤r_))
def nR (l:(List Link)) (most:Int) (right:Int) (right1:(List Source)) (right2:(List Link)) (right3:(List aJ)):Option Bool:=
 (bif gB [((decide ((l.length:Int)≤most)),true)]then fP l right right1 right2 right3 else some default).bind fun r_=>
 some (bif (decide ((l.length:Int)≤most))then(!r_)else false)
def pM (x:aJ):Option Int:=
 bif (decide (x.feeds.e1=(-1)))then
 some 1
 else
 some 2
def oH (x:aJ) (x1:Int) (x11:(List Source)) (x12:(List Link)) (x13:(List aJ)):Option Bool:=
 (aQ x.feeds.e0 0 (IntKind.wrap .i64 (x1 - 1))).bind fun r_=>
 (bif gB [(r_,true)]then aQ x.feeds.e1 (-1) (IntKind.wrap .i64 (x1 - 1))else some default).bind fun r_1=>
 (bif gB [((bif (bif r_ then r_1 else false)then(!decide (x.feeds.e0=x.feeds.e1))else false),true)]then aQ x.power 1 100000 else some default).bind fun r_2=>
 (bif gB [((bif (bif (bif r_ then r_1 else false)then(!decide (x.feeds.e0=x.feeds.e1))else false)then r_2 else false),true)]then pM x else some default).bind fun r_3=>
 (bif gB [((bif (bif (bif r_ then r_1 else false)then(!decide (x.feeds.e0=x.feeds.e1))else false)then r_2 else false),true)]then aQ x.paths 0 r_3 else some default).bind fun r_4=>
 some (bif (bif (bif (bif r_ then r_1 else false)then(!decide (x.feeds.e0=x.feeds.e1))else false)then r_2 else false)then r_4 else false)
def nX (x:aJ) (x1:Int) (x11:(List Source)) (x12:(List Link)) (x13:(List aJ)):Option Bool:=
 (oH x x1 x11 x12 x13).bind fun r_=>
 some (!r_)
def jy (s_:(List aJ)) (f_:Int) (f_1:(List Source)) (f_2:(List Link)) (f_3:(List aJ)):Int→Option (aZ Int (Ex Unit Int)):=
 fun t8=>
 bif (decide (t8<(s_.length:Int)))then
 (nX (⟨((at' s_ t8.toNat).feeds),(at' s_ t8.toNat).power,(at' s_ t8.toNat).paths⟩:aJ) f_ f_1 f_2 f_3).bind fun r_=>
 bB ((0:Int)≤t8∧t8<(s_.length:Int)) (
 bif r_ then
 some (.done (.ret t8))
 else
 some (.next (IntKind.wrap .i64 (t8+1))))
 else
 some (.done (.brk ()))
def kW (s_:(List aJ)) (f_:Int) (f_1:(List Source)) (f_2:(List Link)) (f_3:(List aJ)):Option Int:=
 Option.bind (av (jy s_ f_ f_1 f_2 f_3) FUEL (0)) fun o=>match o with
 | .ret v=>some v
 | .brk _=>
 some (-1)
def fT (s_:(List aJ)) (f_:Int) (f_1:(List Source)) (f_2:(List Link)) (f_3:(List aJ)):Option Bool:=
 (kW s_ f_ f_1 f_2 f_3).bind fun r_=>
 some (decide (0≤r_))
def nN (l:(List aJ)) (most:Int) (right:Int) (right1:(List Source)) (right2:(List Link)) (right3:(List aJ)):Option Bool:=
 (bif gB [((decide ((l.length:Int)≤most)),true)]then fT l right right1 right2 right3 else some default).bind fun r_=>
 some (bif (decide ((l.length:Int)≤most))then(!r_)else false)
def mG (p:ai):Option Int:=
 (aQ p.buses 1 24).bind fun r_=>
 bif (!r_)then
 some 10
 else
 (qQ p).bind fun r_1=>
 (qz p.sources 8 r_1.1 r_1.2.1 r_1.2.2.1 r_1.2.2.2).bind fun r_2=>
 bif (!r_2)then
 some 11
 else
 (uU p).bind fun r_3=>
 (nR p.links 40 r_3.1 r_3.2.1 r_3.2.2.1 r_3.2.2.2).bind fun r_4=>
 bif (!r_4)then
 some 12
 else
 (uZ p).bind fun r_5=>
 (nN p.racks 24 r_5.1 r_5.2.1 r_5.2.2.1 r_5.2.2.2).bind fun r_6=>
 bif (!r_6)then
 some 13
 else
 some 0
def iO (p:ai) (s_:State):Int→Option (aZ Int (Ex Unit Int)):=
 fun t55=>
 bif (decide (t55<([(⟨s_.closed,(p.links.length:Int)⟩:bS),(⟨s_.locked,(p.links.length:Int)⟩:bS),(⟨s_.badLink,(p.links.length:Int)⟩:bS),(⟨s_.on_,(p.sources.length:Int)⟩:bS),(⟨s_.badSource,(p.sources.length:Int)⟩:bS),(⟨s_.earthed,p.buses⟩:bS),(⟨s_.badBus,p.buses⟩:bS)].length:Int)))then
 bB ((0:Int)≤t55∧t55<([(⟨s_.closed,(p.links.length:Int)⟩:bS),(⟨s_.locked,(p.links.length:Int)⟩:bS),(⟨s_.badLink,(p.links.length:Int)⟩:bS),(⟨s_.on_,(p.sources.length:Int)⟩:bS),(⟨s_.badSource,(p.sources.length:Int)⟩:bS),(⟨s_.earthed,p.buses⟩:bS),(⟨s_.badBus,p.buses⟩:bS)].length:Int)) (
 bif (!decide ((((at' [(⟨s_.closed,(p.links.length:Int)⟩:bS),(⟨s_.locked,(p.links.length:Int)⟩:bS),(⟨s_.badLink,(p.links.length:Int)⟩:bS),(⟨s_.on_,(p.sources.length:Int)⟩:bS),(⟨s_.badSource,(p.sources.length:Int)⟩:bS),(⟨s_.earthed,p.buses⟩:bS),(⟨s_.badBus,p.buses⟩:bS)] t55.toNat).l).length:Int)=((at' [(⟨s_.closed,(p.links.length:Int)⟩:bS),(⟨s_.locked,(p.links.length:Int)⟩:bS),(⟨s_.badLink,(p.links.length:Int)⟩:bS),(⟨s_.on_,(p.sources.length:Int)⟩:bS),(⟨s_.badSource,(p.sources.length:Int)⟩:bS),(⟨s_.earthed,p.buses⟩:bS),(⟨s_.badBus,p.buses⟩:bS)] t55.toNat).n)))then
 some (.done (.ret 9))
 else
 some (.next (IntKind.wrap .i64 (t55+1))))
 else
 some (.done (.brk ()))
def iN (p:ai) (s_:State):Int→Option (aZ Int (Ex Unit Int)):=
 fun t69=>
 bif (decide (t69<(p.links.length:Int)))then
 bB ((0:Int)≤t69∧t69<(p.links.length:Int)) (
 bB ((gB [((decide (((at' p.links t69.toNat).kind)=1)),true)]=true→(0:Int)≤t69∧t69<(s_.closed.length:Int))∧(gB [((!(at' s_.closed t69.toNat)),false),((decide (((at' p.links t69.toNat).kind)=1)),true)]=true→(0:Int)≤t69∧t69<(s_.locked.length:Int))) (
 bif (bif (decide (((at' p.links t69.toNat).kind)=1))then(bif (!(at' s_.closed t69.toNat))then true else(at' s_.locked t69.toNat))else false)then
 some (.done (.ret 9))
 else
 some (.next (IntKind.wrap .i64 (t69+1)))))
 else
 some (.done (.brk ()))
def dB (p:ai) (s_:State):Option Int:=
 (mG p).bind fun r_=>
 bif (!decide (r_=0))then
 some r_
 else
 Option.bind (av (iO p s_) FUEL (0)) fun o=>match o with
 | .ret v=>some v
 | .brk _=>
 Option.bind (av (iN p s_) FUEL (0)) fun o=>match o with
 | .ret v=>some v
 | .brk _=>
 some 0
def rq (s_:(List Bool)) (s_nn:Bool):Option (List Bool):=
 bif (!s_nn)then
 some ([]:List Bool)
 else
 bB (((([]:List Bool).length+s_.length)*1≤140737488355328)∧(([]:List Bool).length+s_.length≤4611686018427387904)) (
 some (([]:List Bool)++s_))
def aS (s:(List Bool)):Option (List Bool):=rq s true
def oC (s_:State):Option State:=
 (aS s_.closed).bind fun r_=>
 (aS s_.locked).bind fun r_1=>
 (aS s_.badLink).bind fun r_2=>
 (aS s_.on_).bind fun r_3=>
 (aS s_.badSource).bind fun r_4=>
 (aS s_.earthed).bind fun r_5=>
 (aS s_.badBus).bind fun r_6=>
 some (⟨r_,r_1,r_2,r_3,r_4,r_5,r_6⟩:State)
def qC (p:ai) (s_:State) (k:Int):Option Bool:=
 bB (((0:Int)≤k∧k<(s_.on_.length:Int))∧(gB [((at' s_.on_ k.toNat),true)]=true→(0:Int)≤k∧k<(s_.badSource.length:Int))∧(gB [((bif (at' s_.on_ k.toNat)then(!(at' s_.badSource k.toNat))else false),true)]=true→(0:Int)≤k∧k<(p.sources.length:Int))∧(gB [((bif (at' s_.on_ k.toNat)then(!(at' s_.badSource k.toNat))else false),true)]=true→(0:Int)≤(at' p.sources k.toNat).bus∧(at' p.sources k.toNat).bus<(s_.badBus.length:Int))) (
 some (bif (bif (at' s_.on_ k.toNat)then(!(at' s_.badSource k.toNat))else false)then(!(at' s_.badBus (((at' p.sources k.toNat).bus).toNat)))else false))
def mM (p:ai) (s_:State) (i:Int):Option Bool:=
 bB ((0:Int)≤i∧i<(p.links.length:Int)) (
 bB (((0:Int)≤i∧i<(s_.closed.length:Int))∧(gB [((at' s_.closed i.toNat),true)]=true→(0:Int)≤i∧i<(s_.badLink.length:Int))∧(gB [((bif (at' s_.closed i.toNat)then(!(at' s_.badLink i.toNat))else false),true)]=true→(0:Int)≤(at' p.links i.toNat).a∧(at' p.links i.toNat).a<(s_.badBus.length:Int))∧(gB [((bif (bif (at' s_.closed i.toNat)then(!(at' s_.badLink i.toNat))else false)then(!(at' s_.badBus (((at' p.links i.toNat).a).toNat)))else false),true)]=true→(0:Int)≤(at' p.links i.toNat).b∧(at' p.links i.toNat).b<(s_.badBus.length:Int))) (
 some (bif (bif (bif (at' s_.closed i.toNat)then(!(at' s_.badLink i.toNat))else false)then(!(at' s_.badBus (((at' p.links i.toNat).a).toNat)))else false)then(!(at' s_.badBus (((at' p.links i.toNat).b).toNat)))else false)))
def oL (s_:(List Int)) (s_nn:Bool):Option (List Int):=
 bif (!s_nn)then
 some ([]:List Int)
 else
 bB (((([]:List Int).length+s_.length)*8≤140737488355328)∧(([]:List Int).length+s_.length≤4611686018427387904)) (
 some (([]:List Int)++s_))
def gQ (s:(List Int)):Option (List Int):=oL s true
def rV (x:Int):Option Bool:=
 some (!decide (x=x))
def pJ (x:Int) (y:Int):Option Int:=
 (rV x).bind fun r_=>
 (rV y).bind fun r_1=>
 bif r_ then
 bif r_1 then
 some 0
 else
 some (-1)
 else
 bif r_1 then
 some 1
 else
 bif (decide (x<y))then
 some (-1)
 else
 bif (decide (y<x))then
 some 1
 else
 some 0
def bn (s1:(List Int)) (s2:(List Int)):Int→Option (aZ Int (Ex Unit Int)):=
 fun t11=>
 bif (decide (t11<(s1.length:Int)))then
 bB ((0:Int)≤t11∧t11<(s1.length:Int)) (
 bif (decide ((s2.length:Int)≤t11))then
 some (.done (.ret 1))
 else
 bB ((0:Int)≤t11∧t11<(s2.length:Int)) (
 (pJ (at' s1 t11.toNat) (at' s2 t11.toNat)).bind fun r_=>
 bif (!decide (r_=0))then
 some (.done (.ret r_))
 else
 some (.next (IntKind.wrap .i64 (t11+1)))))
 else
 some (.done (.brk ()))
def oV (s1:(List Int)) (s2:(List Int)):Option Int:=
 Option.bind (av (bn s1 s2) FUEL (0)) fun o=>match o with
 | .ret v=>some v
 | .brk _=>
 bif (decide ((s1.length:Int)<(s2.length:Int)))then
 some (-1)
 else
 some 0
def wR (vals:(List Int)):Int→Option (aZ Int (Ex Unit Int)):=
 fun t8=>
 bif (decide (t8<(vals.length:Int)))then
 bB ((0:Int)≤t8∧t8<(vals.length:Int)) (
 bif (!decide ((at' vals t8.toNat)=0))then
 some (.done (.ret (at' vals t8.toNat)))
 else
 some (.next (IntKind.wrap .i64 (t8+1))))
 else
 some (.done (.brk ()))
def zM (vals:(List Int)):Option Int:=
 Option.bind (av (wR vals) FUEL (0)) fun o=>match o with
 | .ret v=>some v
 | .brk _=>
 some 0
def jA (a:Way) (b:Way):Option Bool:=
 bif (!b.there)then
 some true
 else
 (oV a.links b.links).bind fun r_=>
 (zM [(IntKind.wrap .i64 (a.aX - b.aX)),(IntKind.wrap .i64 ((a.links.length:Int) - (b.links.length:Int))),r_]).bind fun r_1=>
 some (decide (r_1<0))
def jZ (p:ai) (t28:Int):((List Way) × Bool × Int)→Option (aZ ((List Way) × Bool × Int) (Ex ((List Way) × Bool) (aZ ((List Way) × Bool × Int) (Ex ((List Way) × Bool) (aZ ((List Way) × Bool) (Ex (List Way) (List Way))))))):=
 fun zz=>match zz with
 |(out4,changed3,t49)=>
 bif (decide (t49<2))then
 bB ((0:Int)≤t49∧t49<((2:Nat):Int)) (
 bB ((0:Int)≤(at' [(⟨(at' p.links t28.toNat).a,(at' p.links t28.toNat).b⟩:aM),(⟨(at' p.links t28.toNat).b,(at' p.links t28.toNat).a⟩:aM)] t49.toNat).e0∧(at' [(⟨(at' p.links t28.toNat).a,(at' p.links t28.toNat).b⟩:aM),(⟨(at' p.links t28.toNat).b,(at' p.links t28.toNat).a⟩:aM)] t49.toNat).e0<(out4.length:Int)) (
 bif (!((at' out4 (((at' [(⟨(at' p.links t28.toNat).a,(at' p.links t28.toNat).b⟩:aM),(⟨(at' p.links t28.toNat).b,(at' p.links t28.toNat).a⟩:aM)] t49.toNat).e0).toNat)).there))then
 some (.next (out4,changed3,(IntKind.wrap .i64 (t49+1))))
 else
 (gQ ((at' out4 (((at' [(⟨(at' p.links t28.toNat).a,(at' p.links t28.toNat).b⟩:aM),(⟨(at' p.links t28.toNat).b,(at' p.links t28.toNat).a⟩:aM)] t49.toNat).e0).toNat)).links)).bind fun r_1=>
 bB (((r_1.length+[t28].length)*8≤140737488355328)∧(r_1.length+[t28].length≤4611686018427387904)) (
 (jA (⟨true,(IntKind.wrap .i64 (((at' out4 (((at' [(⟨(at' p.links t28.toNat).a,(at' p.links t28.toNat).b⟩:aM),(⟨(at' p.links t28.toNat).b,(at' p.links t28.toNat).a⟩:aM)] t49.toNat).e0).toNat)).aX)+((at' p.links t28.toNat).aX))),(r_1++[t28])⟩:Way) (at' out4 (((at' [(⟨(at' p.links t28.toNat).a,(at' p.links t28.toNat).b⟩:aM),(⟨(at' p.links t28.toNat).b,(at' p.links t28.toNat).a⟩:aM)] t49.toNat).e1).toNat))).bind fun r_2=>
 bB ((0:Int)≤(at' [(⟨(at' p.links t28.toNat).a,(at' p.links t28.toNat).b⟩:aM),(⟨(at' p.links t28.toNat).b,(at' p.links t28.toNat).a⟩:aM)] t49.toNat).e1∧(at' [(⟨(at' p.links t28.toNat).a,(at' p.links t28.toNat).b⟩:aM),(⟨(at' p.links t28.toNat).b,(at' p.links t28.toNat).a⟩:aM)] t49.toNat).e1<(out4.length:Int)) (
 bif r_2 then
 bB ((0:Int)≤(at' [(⟨(at' p.links t28.toNat).a,(at' p.links t28.toNat).b⟩:aM),(⟨(at' p.links t28.toNat).b,(at' p.links t28.toNat).a⟩:aM)] t49.toNat).e1∧(at' [(⟨(at' p.links t28.toNat).a,(at' p.links t28.toNat).b⟩:aM),(⟨(at' p.links t28.toNat).b,(at' p.links t28.toNat).a⟩:aM)] t49.toNat).e1<(out4.length:Int)) (
 some (.next ((out4.set (((at' [(⟨(at' p.links t28.toNat).a,(at' p.links t28.toNat).b⟩:aM),(⟨(at' p.links t28.toNat).b,(at' p.links t28.toNat).a⟩:aM)] t49.toNat).e1).toNat) (⟨true,(IntKind.wrap .i64 (((at' out4 (((at' [(⟨(at' p.links t28.toNat).a,(at' p.links t28.toNat).b⟩:aM),(⟨(at' p.links t28.toNat).b,(at' p.links t28.toNat).a⟩:aM)] t49.toNat).e0).toNat)).aX)+((at' p.links t28.toNat).aX))),(r_1++[t28])⟩:Way)),true,(IntKind.wrap .i64 (t49+1)))))
 else
 some (.next (out4,changed3,(IntKind.wrap .i64 (t49+1))))))))
 else
 some (.done (.brk (out4,changed3)))
def oh (p:ai) (s_:State):((List Way) × Bool × Int)→Option (aZ ((List Way) × Bool × Int) (Ex ((List Way) × Bool) (aZ ((List Way) × Bool) (Ex (List Way) (List Way))))):=
 fun zz=>match zz with
 |(out2,changed1,t28)=>
 bif (decide (t28<(p.links.length:Int)))then
 bB ((0:Int)≤t28∧t28<(p.links.length:Int)) (
 (mM p s_ t28).bind fun r_=>
 bif (!r_)then
 some (.next (out2,changed1,(IntKind.wrap .i64 (t28+1))))
 else
 Option.bind (av (jZ p t28) FUEL (out2,changed1,0)) fun o=>match o with
 | .ret v=>some v
 | .brk (out5,changed4)=>
 some (.next (out5,changed4,(IntKind.wrap .i64 (t28+1)))))
 else
 some (.done (.brk (out2,changed1)))
def lI (p:ai) (s_:State):((List Way) × Bool)→Option (aZ ((List Way) × Bool) (Ex (List Way) (List Way))):=
 fun zz=>match zz with
 |(out,changed)=>
 bif changed then
 Option.bind (av (oh p s_) FUEL (out,false,0)) fun o=>match o with
 | .ret v=>some v
 | .brk (out3,changed2)=>
 some (.next (out3,changed2))
 else
 some (.done (.brk out))
def nE (p:ai) (s_:State) (bus:Int):Option (List Way):=
 bB (((0:Int)≤p.buses)∧((40:Int)*p.buses≤281474976710656)∧((p.buses:Int)≤9223372036854775807)) (
 bB ((0:Int)≤bus∧bus<((List.replicate p.buses.toNat ((⟨false,0,([]:List Int)⟩:Way):Way)).length:Int)) (
 Option.bind (av (lI p s_) FUEL (((List.replicate p.buses.toNat ((⟨false,0,([]:List Int)⟩:Way):Way)).set bus.toNat (⟨true,(at' (List.replicate p.buses.toNat ((⟨false,0,([]:List Int)⟩:Way):Way)) bus.toNat).aX,(at' (List.replicate p.buses.toNat ((⟨false,0,([]:List Int)⟩:Way):Way)) bus.toNat).links⟩:Way)),true)) fun o=>match o with
 | .ret v=>some v
 | .brk out1=>
 some out1))
def lU (p:ai) (s_:State) (bus:Int):((List Short) × Int)→Option (aZ ((List Short) × Int) (Ex (List Short) ((List Short) × Int))):=
 fun zz=>match zz with
 |(out,t31)=>
 bif (decide (t31<(p.sources.length:Int)))then
 bB ((0:Int)≤t31∧t31<(p.sources.length:Int)) (
 (bif gB [((at' s_.badBus bus.toNat),false)]then qC p s_ t31 else some default).bind fun r_1=>
 bB ((0:Int)≤bus∧bus<(s_.badBus.length:Int)) (
 bif (bif (at' s_.badBus bus.toNat)then true else(!r_1))then
 some (.next (out,(IntKind.wrap .i64 (t31+1))))
 else
 (nE p s_ ((at' p.sources t31.toNat).bus)).bind fun r_2=>
 bB ((0:Int)≤bus∧bus<(r_2.length:Int)) (
 bif ((at' r_2 bus.toNat).there)then
 bB (((IntKind.wrap .i64 (((at' p.sources t31.toNat).aX)+((at' r_2 bus.toNat).aX)))≠(0:Int))∧((out.length+[(⟨t31,(IntKind.wrap .i64 (((at' p.sources t31.toNat).aX)+((at' r_2 bus.toNat).aX))),(IntKind.wrap .i64 (Int.tdiv (IntKind.wrap .i64 ((IntKind.wrap .i64 ((400000:Int)+(IntKind.wrap .i64 (((at' p.sources t31.toNat).aX)+((at' r_2 bus.toNat).aX))))) - 1)) (IntKind.wrap .i64 (((at' p.sources t31.toNat).aX)+((at' r_2 bus.toNat).aX))))),(at' r_2 bus.toNat).links⟩:Short)].length)*48≤140737488355328)∧(out.length+[(⟨t31,(IntKind.wrap .i64 (((at' p.sources t31.toNat).aX)+((at' r_2 bus.toNat).aX))),(IntKind.wrap .i64 (Int.tdiv (IntKind.wrap .i64 ((IntKind.wrap .i64 ((400000:Int)+(IntKind.wrap .i64 (((at' p.sources t31.toNat).aX)+((at' r_2 bus.toNat).aX))))) - 1)) (IntKind.wrap .i64 (((at' p.sources t31.toNat).aX)+((at' r_2 bus.toNat).aX))))),(at' r_2 bus.toNat).links⟩:Short)].length≤4611686018427387904)) (
 some (.next ((out++[(⟨t31,(IntKind.wrap .i64 (((at' p.sources t31.toNat).aX)+((at' r_2 bus.toNat).aX))),(IntKind.wrap .i64 (Int.tdiv (IntKind.wrap .i64 ((IntKind.wrap .i64 ((400000:Int)+(IntKind.wrap .i64 (((at' p.sources t31.toNat).aX)+((at' r_2 bus.toNat).aX))))) - 1)) (IntKind.wrap .i64 (((at' p.sources t31.toNat).aX)+((at' r_2 bus.toNat).aX))))),(at' r_2 bus.toNat).links⟩:Short)]),(IntKind.wrap .i64 (t31+1)))))
 else
 some (.next (out,(IntKind.wrap .i64 (t31+1)))))))
 else
 some (.done (.brk out))
def pI (p:ai) (s_:State) (bus:Int):Option ((List Short) × Int):=
 (dB p s_).bind fun r_=>
 bif (!decide (r_=0))then
 some (([]:List Short),r_)
 else
 bif (bif (decide (bus<0))then true else(decide (p.buses≤bus)))then
 some (([]:List Short),1)
 else
 Option.bind (av (lU p s_ bus) FUEL (([]:List Short),0)) fun o=>match o with
 | .ret v=>some v
 | .brk out1=>
 some (out1,0)
def nU (s_:(List Int)) (v_:Int):Int→Option (aZ Int (Ex Unit Int)):=
 fun t8=>
 bif (decide (t8<(s_.length:Int)))then
 bB ((0:Int)≤t8∧t8<(s_.length:Int)) (
 bif (decide (v_=(at' s_ t8.toNat)))then
 some (.done (.ret t8))
 else
 some (.next (IntKind.wrap .i64 (t8+1))))
 else
 some (.done (.brk ()))
def rG (s_:(List Int)) (v_:Int):Option Int:=
 Option.bind (av (nU s_ v_) FUEL (0)) fun o=>match o with
 | .ret v=>some v
 | .brk _=>
 some (-1)
def kY (s_:(List Int)) (v_:Int):Option Bool:=
 (rG s_ v_).bind fun r_=>
 some (decide (0≤r_))
def pu (i:Int) (o_:(List Int)):Option Bool:=
 some (bif (decide (i<0))then true else(decide ((o_.length:Int)≤i)))
def jF (s_:(List Int)) (o_:(List Int)):Int→Option (aZ Int (Ex Unit Int)):=
 fun t8=>
 bif (decide (t8<(s_.length:Int)))then
 (pu (at' s_ t8.toNat) o_).bind fun r_=>
 bB ((0:Int)≤t8∧t8<(s_.length:Int)) (
 bif r_ then
 some (.done (.ret t8))
 else
 some (.next (IntKind.wrap .i64 (t8+1))))
 else
 some (.done (.brk ()))
def kR (s_:(List Int)) (o_:(List Int)):Option Int:=
 Option.bind (av (jF s_ o_) FUEL (0)) fun o=>match o with
 | .ret v=>some v
 | .brk _=>
 some (-1)
def gu (s_:(List Int)) (o_:(List Int)):Option Bool:=
 (kR s_ o_).bind fun r_=>
 some (decide (0≤r_))
def jv (l:(List Short)) (out0:(List Int)) (t25:Int):((List Int) × Int)→Option (aZ ((List Int) × Int) (Ex (List Int) (aZ ((List Int) × Int) (Ex (List Int) ((List Int) × Bool × Int))))):=
 fun zz=>match zz with
 |(out02,t45)=>
 bif (decide (t45<(out0.length:Int)))then
 (kY ((at' l t25.toNat).links) t45).bind fun r_2=>
 bif r_2 then
 bB ((0:Int)≤t45∧t45<(out02.length:Int)) (
 some (.next ((out02.set t45.toNat (IntKind.wrap .i64 ((at' out02 t45.toNat)+((at' l t25.toNat).amps)))),(IntKind.wrap .i64 (t45+1)))))
 else
 some (.next (out02,(IntKind.wrap .i64 (t45+1))))
 else
 some (.done (.brk out02))
def eU (l:(List Short)):((List Int) × Int)→Option (aZ ((List Int) × Int) (Ex (List Int) ((List Int) × Bool × Int))):=
 fun zz=>match zz with
 |(out0,t25)=>
 bif (decide (t25<(l.length:Int)))then
 bB ((0:Int)≤t25∧t25<(l.length:Int)) (
 (bif gB [((bif (decide (((at' l t25.toNat).amps)<0))then true else(decide (1000000<((at' l t25.toNat).amps)))),false)]then gu ((at' l t25.toNat).links) out0 else some default).bind fun r_1=>
 bif (bif (bif (decide (((at' l t25.toNat).amps)<0))then true else(decide (1000000<((at' l t25.toNat).amps))))then true else r_1)then
 some (.done (.ret (([]:List Int),false,1)))
 else
 Option.bind (av (jv l out0 t25) FUEL (out0,0)) fun o=>match o with
 | .ret v=>some v
 | .brk out03=>
 some (.next (out03,(IntKind.wrap .i64 (t25+1)))))
 else
 some (.done (.brk out0))
def lu (p:ai) (l:(List Short)):Option ((List Int) × Bool × Int):=
 (mG p).bind fun r_=>
 bif (!decide (r_=0))then
 some (([]:List Int),false,r_)
 else
 bif (decide (8<(l.length:Int)))then
 some (([]:List Int),false,1)
 else
 bB (((0:Int)≤(p.links.length:Int))∧((8:Int)*(p.links.length:Int)≤281474976710656)∧(((p.links.length:Int):Int)≤9223372036854775807)) (
 Option.bind (av (eU l) FUEL ((List.replicate ((p.links.length:Int).toNat) (0:Int)),0)) fun o=>match o with
 | .ret v=>some v
 | .brk out01=>
 some (out01,true,0))
def gD (r_:((List Short) × Int)):(Int × Int)→Option (aZ (Int × Int) (Ex Int (Machine × Bool))):=
 fun zz=>match zz with
 |(o17,t41)=>
 bif (decide (t41<(r_.1.length:Int)))then
 bB ((0:Int)≤t41∧t41<(r_.1.length:Int)) (
 some (.next ((IntKind.wrap .i64 (o17+((at' r_.1 t41.toNat).amps))),(IntKind.wrap .i64 (t41+1)))))
 else
 some (.done (.brk o17))
def eG (machine:Machine) (machine_nn:Bool) (r_1:((List Int) × Bool × Int)):((List (Int × Int)) × Int)→Option (aZ ((List (Int × Int)) × Int) (Ex (List (Int × Int)) (Machine × Bool))):=
 fun zz=>match zz with
 |(o18,t57)=>
 bif (decide (t57<(r_1.1.length:Int)))then
 bB ((0:Int)≤t57∧t57<(r_1.1.length:Int)) (
 bB (gB [((!machine_nn),false)]=true→(0:Int)≤t57∧t57<(machine.amps.length:Int)) (
 bif (bif (!machine_nn)then true else(!decide ((at' machine.amps t57.toNat)=(at' r_1.1 t57.toNat))))then
 some (.next ((gY dS t57 machine.now o18),(IntKind.wrap .i64 (t57+1))))
 else
 some (.next (o18,(IntKind.wrap .i64 (t57+1))))))
 else
 some (.done (.brk o18))
def dA (machine:Machine) (machine_nn:Bool):Option (Machine × Bool):=
 (pI machine.p machine.clearing.state machine.bus).bind fun r_=>
 (lu machine.p r_.1).bind fun r_1=>
 Option.bind (av (gD r_) FUEL (0,0)) fun o=>match o with
 | .ret v=>some v
 | .brk o171=>
 Option.bind (av (eG machine machine_nn r_1) FUEL (machine.since,0)) fun o=>match o with
 | .ret v=>some v
 | .brk o181=>
 some ((⟨machine.clearing,machine.p,machine.bus,r_1.1,o171,o181,machine.now⟩:Machine),r_1.2.1)
def iM (machine:Machine) (machine_nn:Bool):Option Unit:=
 some ()
def dI (x:Link) (amps:Int):Int→Option (aZ Int (Ex Unit (Int × Bool))):=
 fun i=>
 bif (decide (0≤i))then
 bB ((0:Int)≤i∧i<(x.trip.length:Int)) (
 bif (decide (((at' x.trip i.toNat).amps)≤amps))then
 bB ((0:Int)≤i∧i<(x.trip.length:Int)) (
 some (.done (.ret ((at' x.trip i.toNat).millis,true))))
 else
 some (.next (IntKind.wrap .i64 (i - 1))))
 else
 some (.done (.brk ()))
def jB (x:Link) (amps:Int):Option (Int × Bool):=
 Option.bind (av (dI x amps) FUEL (IntKind.wrap .i64 ((x.trip.length:Int) - 1))) fun o=>match o with
 | .ret v=>some v
 | .brk _=>
 some (0,false)
def eZ (x13:Int) (x14:Int) (int:Int):Option Int:=
 bif (bif (decide (int<0))then true else(decide (x14<int)))then
 some x14
 else
 some int
def eY (machine:Machine):(Int × Int)→Option (aZ (Int × Int) (Ex Int Int)):=
 fun zz=>match zz with
 |(o30,t13)=>
 bif (decide (t13<(machine.p.links.length:Int)))then
 bB ((0:Int)≤t13∧t13<(machine.p.links.length:Int)) (
 bB ((gB [((!decide (((at' machine.p.links t13.toNat).kind)=3)),false)]=true→(0:Int)≤t13∧t13<(machine.clearing.state.closed.length:Int))∧(gB [((bif (!decide (((at' machine.p.links t13.toNat).kind)=3))then true else(!(at' machine.clearing.state.closed t13.toNat))),false)]=true→(0:Int)≤t13∧t13<(machine.clearing.state.badLink.length:Int))) (
 bif (bif (bif (!decide (((at' machine.p.links t13.toNat).kind)=3))then true else(!(at' machine.clearing.state.closed t13.toNat)))then true else(at' machine.clearing.state.badLink t13.toNat))then
 some (.next (o30,(IntKind.wrap .i64 (t13+1))))
 else
 (jB (at' machine.p.links t13.toNat) (at' machine.amps t13.toNat)).bind fun r_=>
 bB ((0:Int)≤t13∧t13<(machine.amps.length:Int)) (
 bif r_.2 then
 (eZ t13 (IntKind.wrap .i64 (((bH dS t13 machine.since).getD 0)+r_.1)) o30).bind fun r_1=>
 some (.next (r_1,(IntKind.wrap .i64 (t13+1))))
 else
 some (.next (o30,(IntKind.wrap .i64 (t13+1)))))))
 else
 some (.done (.brk o30))
def gq (int:Int) (machine:Machine) (machine_nn:Bool):Option Int:=
 Option.bind (av (eY machine) FUEL (int,0)) fun o=>match o with
 | .ret v=>some v
 | .brk o301=>
 some o301
def fe (x33:Int) (x34:Int) (int:Int) (o_:(List Int)):Option (List Int):=
 bif (decide (x34≤int))then
 bB (((o_.length+[x33].length)*8≤140737488355328)∧(o_.length+[x33].length≤4611686018427387904)) (
 some (o_++[x33]))
 else
 some o_
def dP (int:Int) (machine:Machine):((List Int) × Int)→Option (aZ ((List Int) × Int) (Ex (List Int) (List Int))):=
 fun zz=>match zz with
 |(o60,t13)=>
 bif (decide (t13<(machine.p.links.length:Int)))then
 bB ((0:Int)≤t13∧t13<(machine.p.links.length:Int)) (
 bB ((gB [((!decide (((at' machine.p.links t13.toNat).kind)=3)),false)]=true→(0:Int)≤t13∧t13<(machine.clearing.state.closed.length:Int))∧(gB [((bif (!decide (((at' machine.p.links t13.toNat).kind)=3))then true else(!(at' machine.clearing.state.closed t13.toNat))),false)]=true→(0:Int)≤t13∧t13<(machine.clearing.state.badLink.length:Int))) (
 bif (bif (bif (!decide (((at' machine.p.links t13.toNat).kind)=3))then true else(!(at' machine.clearing.state.closed t13.toNat)))then true else(at' machine.clearing.state.badLink t13.toNat))then
 some (.next (o60,(IntKind.wrap .i64 (t13+1))))
 else
 (jB (at' machine.p.links t13.toNat) (at' machine.amps t13.toNat)).bind fun r_=>
 bB ((0:Int)≤t13∧t13<(machine.amps.length:Int)) (
 bif r_.2 then
 (fe t13 (IntKind.wrap .i64 (((bH dS t13 machine.since).getD 0)+r_.1)) int o60).bind fun r_1=>
 some (.next (r_1,(IntKind.wrap .i64 (t13+1))))
 else
 some (.next (o60,(IntKind.wrap .i64 (t13+1)))))))
 else
 some (.done (.brk o60))
def eX (int:Int) (o_:(List Int)) (machine:Machine) (machine_nn:Bool):Option (List Int):=
 Option.bind (av (dP int machine) FUEL (o_,0)) fun o=>match o with
 | .ret v=>some v
 | .brk o601=>
 some o601
def dV (machine:Machine) (r_1:Int) (r_3:(List Int)):((List Event) × (List Bool) × Int)→Option (aZ ((List Event) × (List Bool) × Int) (Ex ((List Event) × (List Bool)) (Bool × Machine × Bool))):=
 fun zz=>match zz with
 |(o0,o4,t92)=>
 bif (decide (t92<(r_3.length:Int)))then
 bB ((0:Int)≤t92∧t92<(r_3.length:Int)) (
 bB ((0:Int)≤(at' r_3 t92.toNat)∧(at' r_3 t92.toNat)<(o4.length:Int)) (
 bB (((o0.length+[(⟨(if r_1<machine.now then machine.now else r_1),(at' r_3 t92.toNat)⟩:Event)].length)*16≤140737488355328)∧(o0.length+[(⟨(if r_1<machine.now then machine.now else r_1),(at' r_3 t92.toNat)⟩:Event)].length≤4611686018427387904)) (
 some (.next ((o0++[(⟨(if r_1<machine.now then machine.now else r_1),(at' r_3 t92.toNat)⟩:Event)]),(o4.set ((at' r_3 t92.toNat).toNat) false),(IntKind.wrap .i64 (t92+1)))))))
 else
 some (.done (.brk (o0,o4)))
def dR (machine:Machine) (machine_nn:Bool):Option (Bool × Machine × Bool):=
 (iM machine machine_nn).bind fun r_=>
 (gq (-1) machine machine_nn).bind fun r_1=>
 bif (decide (r_1<0))then
 some (false,machine,machine_nn)
 else
 (iM machine machine_nn).bind fun r_2=>
 (eX (if r_1<machine.now then machine.now else r_1) ([]:List Int) machine machine_nn).bind fun r_3=>
 bB (1000≠(0:Int)) (
 (aS machine.clearing.state.closed).bind fun r_4=>
 Option.bind (av (dV machine r_1 r_3) FUEL (machine.clearing.events,r_4,0)) fun o=>match o with
 | .ret v=>some v
 | .brk (o01,o41)=>
 some (true,(⟨(⟨o01,machine.clearing.cleared,(if r_1<machine.now then machine.now else r_1),(IntKind.wrap .i64 (machine.clearing.energy+(IntKind.wrap .i64 ((IntKind.wrap .i64 (Int.tdiv (IntKind.wrap .i64 ((IntKind.wrap .i64 (machine.total*machine.total))+999)) 1000))*(IntKind.wrap .i64 ((if r_1<machine.now then machine.now else r_1) - machine.now)))))),(⟨o41,machine.clearing.state.locked,machine.clearing.state.badLink,machine.clearing.state.on_,machine.clearing.state.badSource,machine.clearing.state.earthed,machine.clearing.state.badBus⟩:State)⟩:aA),machine.p,machine.bus,machine.amps,machine.total,machine.since,(if r_1<machine.now then machine.now else r_1)⟩:Machine),machine_nn))
def dK (machine:Machine):((List Event) × Bool × Int × Int × (List Bool) × Int × (List Source) × (List Link) × (List aJ) × Int × Bool × (List Int) × Int × (List (Int × Int)) × Int)→Option (aZ ((List Event) × Bool × Int × Int × (List Bool) × Int × (List Source) × (List Link) × (List aJ) × Int × Bool × (List Int) × Int × (List (Int × Int)) × Int) (Ex Unit (aA × (List (Int × Int))))):=
 fun zz=>match zz with
 |(o0,o1,o2,o3,o4,o11,o12,o13,o14,o15,o16_nn,o16,o17,o18,o19)=>
 (dA (⟨(⟨o0,o1,o2,o3,(⟨o4,machine.clearing.state.locked,machine.clearing.state.badLink,machine.clearing.state.on_,machine.clearing.state.badSource,machine.clearing.state.earthed,machine.clearing.state.badBus⟩:State)⟩:aA),(⟨o11,o12,o13,o14⟩:ai),o15,o16,o17,o18,o19⟩:Machine) o16_nn).bind fun r_=>
 bif (decide (r_.1.total=0))then
 some (.done (.ret ((⟨o0,true,r_.1.clearing.millis,r_.1.clearing.energy,(⟨o4,machine.clearing.state.locked,machine.clearing.state.badLink,machine.clearing.state.on_,machine.clearing.state.badSource,machine.clearing.state.earthed,machine.clearing.state.badBus⟩:State)⟩:aA),r_.1.since)))
 else
 (dR (⟨(⟨o0,r_.1.clearing.cleared,r_.1.clearing.millis,r_.1.clearing.energy,(⟨o4,machine.clearing.state.locked,machine.clearing.state.badLink,machine.clearing.state.on_,machine.clearing.state.badSource,machine.clearing.state.earthed,machine.clearing.state.badBus⟩:State)⟩:aA),r_.1.p,r_.1.bus,r_.1.amps,r_.1.total,r_.1.since,r_.1.now⟩:Machine) r_.2).bind fun r_1=>
 bif r_1.1 then
 some (.next (r_1.2.1.clearing.events,r_1.2.1.clearing.cleared,r_1.2.1.clearing.millis,r_1.2.1.clearing.energy,r_1.2.1.clearing.state.closed,r_1.2.1.p.buses,r_1.2.1.p.sources,r_1.2.1.p.links,r_1.2.1.p.racks,r_1.2.1.bus,r_1.2.2,r_1.2.1.amps,r_1.2.1.total,r_.1.since,r_1.2.1.now))
 else
 some (.done (.ret ((⟨r_1.2.1.clearing.events,r_1.2.1.clearing.cleared,r_1.2.1.clearing.millis,r_1.2.1.clearing.energy,(⟨r_1.2.1.clearing.state.closed,machine.clearing.state.locked,machine.clearing.state.badLink,machine.clearing.state.on_,machine.clearing.state.badSource,machine.clearing.state.earthed,machine.clearing.state.badBus⟩:State)⟩:aA),r_.1.since)))
def jL (machine:Machine) (machine_nn:Bool):Option (aA × (List (Int × Int))):=
 Option.bind (av (dK machine) FUEL (machine.clearing.events,machine.clearing.cleared,machine.clearing.millis,machine.clearing.energy,machine.clearing.state.closed,machine.p.buses,machine.p.sources,machine.p.links,machine.p.racks,machine.bus,machine_nn,machine.amps,machine.total,machine.since,machine.now)) fun o=>match o with
 | .ret v=>some v
 | .brk _=>none
def bI (p:ai) (s_:State) (bus:Int):Option (aA × Int):=
 (dB p s_).bind fun r_=>
 bif (!decide (r_=0))then
 some ((⟨([]:List Event),false,0,0,(⟨([]:List Bool),([]:List Bool),([]:List Bool),([]:List Bool),([]:List Bool),([]:List Bool),([]:List Bool)⟩:State)⟩:aA),r_)
 else
 bif (bif (decide (bus<0))then true else(decide (p.buses≤bus)))then
 some ((⟨([]:List Event),false,0,0,(⟨([]:List Bool),([]:List Bool),([]:List Bool),([]:List Bool),([]:List Bool),([]:List Bool),([]:List Bool)⟩:State)⟩:aA),1)
 else
 (oC s_).bind fun r_1=>
 (jL (⟨(⟨([]:List Event),false,0,0,r_1⟩:aA),p,bus,([]:List Int),0,([]:(List (Int × Int))),0⟩:Machine) false).bind fun r_2=>
 some (r_2.1,0)
def vo (p:ai) (i:Int) (bus:Int):Option Bool:=
 bB (((0:Int)≤i∧i<(p.links.length:Int))∧(gB [((decide (((at' p.links i.toNat).a)=bus)),false)]=true→(0:Int)≤i∧i<(p.links.length:Int))) (
 some (bif (decide (((at' p.links i.toNat).a)=bus))then true else(decide (((at' p.links i.toNat).b)=bus))))
def mq (x:Event) (x1:Int) (x11:(List Source)) (x12:(List Link)) (x13:(List aJ)) (x2:Int):Option Bool:=
 (vo (⟨x1,x11,x12,x13⟩:ai) x.link x2).bind fun r_=>
 some (!r_)
def fQ (s_:(List Event)) (f_:Int) (f_1:(List Source)) (f_2:(List Link)) (f_3:(List aJ)) (f_4:Int):Int→Option (aZ Int (Ex Unit Int)):=
 fun t8=>
 bif (decide (t8<(s_.length:Int)))then
 (mq (at' s_ t8.toNat) f_ f_1 f_2 f_3 f_4).bind fun r_=>
 bB ((0:Int)≤t8∧t8<(s_.length:Int)) (
 bif r_ then
 some (.done (.ret t8))
 else
 some (.next (IntKind.wrap .i64 (t8+1))))
 else
 some (.done (.brk ()))
def kU (s_:(List Event)) (f_:Int) (f_1:(List Source)) (f_2:(List Link)) (f_3:(List aJ)) (f_4:Int):Option Int:=
 Option.bind (av (fQ s_ f_ f_1 f_2 f_3 f_4) FUEL (0)) fun o=>match o with
 | .ret v=>some v
 | .brk _=>
 some (-1)
def jE (s_:(List Event)) (f_:Int) (f_1:(List Source)) (f_2:(List Link)) (f_3:(List aJ)) (f_4:Int):Option Bool:=
 (kU s_ f_ f_1 f_2 f_3 f_4).bind fun r_=>
 some (decide (0≤r_))
def fq (p:ai) (s_:State) (bus:Int):Option (Bool × Int):=
 (bI p s_ bus).bind fun r_=>
 bif (!decide (r_.2=0))then
 some (false,r_.2)
 else
 (bif gB [(r_.1.cleared,true)]then jE r_.1.events p.buses p.sources p.links p.racks bus else some default).bind fun r_1=>
 some ((bif r_.1.cleared then(!r_1)else false),0)
def oz (s_:State):Option State:=
 bB ((0:Int)≤0∧0<(7:Int)) (
 (aS s_.closed).bind fun r_=>
 bB ((0:Int)≤1∧1<(7:Int)) (
 (aS s_.locked).bind fun r_1=>
 bB ((0:Int)≤2∧2<(7:Int)) (
 (aS s_.badLink).bind fun r_2=>
 bB ((0:Int)≤3∧3<(7:Int)) (
 (aS s_.on_).bind fun r_3=>
 bB ((0:Int)≤4∧4<(7:Int)) (
 (aS s_.badSource).bind fun r_4=>
 bB ((0:Int)≤5∧5<(7:Int)) (
 (aS s_.earthed).bind fun r_5=>
 bB ((0:Int)≤6∧6<(7:Int)) (
 (aS s_.badBus).bind fun r_6=>
 some (⟨r_,r_1,r_2,r_3,r_4,r_5,r_6⟩:State))))))))
def q9 (p:ai) (s_:State) (x:Part) (is:Bool):Option (State × Int):=
 (dB p s_).bind fun r_=>
 bif (!decide (r_=0))then
 some ((⟨([]:List Bool),([]:List Bool),([]:List Bool),([]:List Bool),([]:List Bool),([]:List Bool),([]:List Bool)⟩:State),r_)
 else
 (oz s_).bind fun r_1=>
 bif (dS x.kind 1)then
 (aQ x.index 0 (IntKind.wrap .i64 ((r_1.badBus.length:Int) - 1))).bind fun r_2=>
 bif (!r_2)then
 some ((⟨([]:List Bool),([]:List Bool),([]:List Bool),([]:List Bool),([]:List Bool),([]:List Bool),([]:List Bool)⟩:State),14)
 else
 bB ((0:Int)≤x.index∧x.index<(r_1.badBus.length:Int)) (
 some ((⟨r_1.closed,r_1.locked,r_1.badLink,r_1.on_,r_1.badSource,r_1.earthed,(r_1.badBus.set x.index.toNat is)⟩:State),0))
 else
 bif (dS x.kind 2)then
 (aQ x.index 0 (IntKind.wrap .i64 ((r_1.badSource.length:Int) - 1))).bind fun r_3=>
 bif (!r_3)then
 some ((⟨([]:List Bool),([]:List Bool),([]:List Bool),([]:List Bool),([]:List Bool),([]:List Bool),([]:List Bool)⟩:State),14)
 else
 bB ((0:Int)≤x.index∧x.index<(r_1.badSource.length:Int)) (
 some ((⟨r_1.closed,r_1.locked,r_1.badLink,r_1.on_,(r_1.badSource.set x.index.toNat is),r_1.earthed,r_1.badBus⟩:State),0))
 else
 bif (dS x.kind 3)then
 (aQ x.index 0 (IntKind.wrap .i64 ((r_1.badLink.length:Int) - 1))).bind fun r_4=>
 bif (!r_4)then
 some ((⟨([]:List Bool),([]:List Bool),([]:List Bool),([]:List Bool),([]:List Bool),([]:List Bool),([]:List Bool)⟩:State),14)
 else
 bB ((0:Int)≤x.index∧x.index<(r_1.badLink.length:Int)) (
 some ((⟨r_1.closed,r_1.locked,(r_1.badLink.set x.index.toNat is),r_1.on_,r_1.badSource,r_1.earthed,r_1.badBus⟩:State),0))
 else
 (aQ x.index 0 (-1)).bind fun r_5=>
 bif (!r_5)then
 some ((⟨([]:List Bool),([]:List Bool),([]:List Bool),([]:List Bool),([]:List Bool),([]:List Bool),([]:List Bool)⟩:State),14)
 else
 none
def pK (p:ai) (s_:State) (x:Part):Option (State × Int):=
 (q9 p s_ x true).bind fun r_=>
 some (r_.1,r_.2)
def nk (p:ai) (s_:State):Option (Int × (List Source) × (List Link) × (List aJ) × (List Bool) × (List Bool) × (List Bool) × (List Bool) × (List Bool) × (List Bool) × (List Bool)):=
 some (p.buses,p.sources,p.links,p.racks,s_.closed,s_.locked,s_.badLink,s_.on_,s_.badSource,s_.earthed,s_.badBus)
def eF (g:aW):Int→Option (aZ Int (Ex Unit Int)):=
 fun x1=>
 bif (!((bH dS x1 g.head).isSome))then
 some (.done (.ret x1))
 else
 some (.next ((bH dS x1 g.head).getD 0))
def bX (g:aW) (x:Int):Option Int:=
 Option.bind (av (eF g) FUEL (x)) fun o=>match o with
 | .ret v=>some v
 | .brk _=>none
def jM (g:aW) (a:Int) (b:Int):Option (List (Int × Int)):=
 (bX g a).bind fun r_=>
 (bX g b).bind fun r_1=>
 bif (!decide (r_=r_1))then
 some (gY dS r_ r_1 g.head)
 else
 some g.head
def lK (x22:Int) (x221:Int) (x222:Int) (x223:Int) (x224:Int) (x225:(List aF)) (o_:aW):Option aW:=
 (jM o_ x22 x221).bind fun r_=>
 some (⟨r_⟩:aW)
def dz (x12:(List Link)) (x2:(List Bool)) (x22:(List Bool)) (x26:(List Bool)):((List (Int × Int)) × Int)→Option (aZ ((List (Int × Int)) × Int) (Ex (List (Int × Int)) aW)):=
 fun zz=>match zz with
 |(o50,t9)=>
 bif (decide (t9<(x12.length:Int)))then
 bB ((0:Int)≤t9∧t9<(x12.length:Int)) (
 bif (bif (bif (bif (at' x2 t9.toNat)then(!(at' x22 t9.toNat))else false)then(!(at' x26 (((at' x12 t9.toNat).a).toNat)))else false)then(!(at' x26 (((at' x12 t9.toNat).b).toNat)))else false)then
 (lK ((at' x12 t9.toNat).a) ((at' x12 t9.toNat).b) ((at' x12 t9.toNat).kind) ((at' x12 t9.toNat).most) ((at' x12 t9.toNat).aX) ((at' x12 t9.toNat).trip) (⟨o50⟩:aW)).bind fun r_=>
 bB (((0:Int)≤t9∧t9<(x2.length:Int))∧(gB [((at' x2 t9.toNat),true)]=true→(0:Int)≤t9∧t9<(x22.length:Int))∧(gB [((bif (at' x2 t9.toNat)then(!(at' x22 t9.toNat))else false),true)]=true→(0:Int)≤(at' x12 t9.toNat).a∧(at' x12 t9.toNat).a<(x26.length:Int))∧(gB [((bif (bif (at' x2 t9.toNat)then(!(at' x22 t9.toNat))else false)then(!(at' x26 (((at' x12 t9.toNat).a).toNat)))else false),true)]=true→(0:Int)≤(at' x12 t9.toNat).b∧(at' x12 t9.toNat).b<(x26.length:Int))) (
 some (.next (r_.head,(IntKind.wrap .i64 (t9+1)))))
 else
 bB (((0:Int)≤t9∧t9<(x2.length:Int))∧(gB [((at' x2 t9.toNat),true)]=true→(0:Int)≤t9∧t9<(x22.length:Int))∧(gB [((bif (at' x2 t9.toNat)then(!(at' x22 t9.toNat))else false),true)]=true→(0:Int)≤(at' x12 t9.toNat).a∧(at' x12 t9.toNat).a<(x26.length:Int))∧(gB [((bif (bif (at' x2 t9.toNat)then(!(at' x22 t9.toNat))else false)then(!(at' x26 (((at' x12 t9.toNat).a).toNat)))else false),true)]=true→(0:Int)≤(at' x12 t9.toNat).b∧(at' x12 t9.toNat).b<(x26.length:Int))) (
 some (.next (o50,(IntKind.wrap .i64 (t9+1))))))
 else
 some (.done (.brk o50))
def lG (x1:Int) (x11:(List Source)) (x12:(List Link)) (x13:(List aJ)) (x2:(List Bool)) (x21:(List Bool)) (x22:(List Bool)) (x23:(List Bool)) (x24:(List Bool)) (x25:(List Bool)) (x26:(List Bool)) (o_:aW):Option aW:=
 Option.bind (av (dz x12 x2 x22 x26) FUEL (o_.head,0)) fun o=>match o with
 | .ret v=>some v
 | .brk o501=>
 some (⟨o501⟩:aW)
def fG (p:ai) (s_:State) (r_1:aW):((List aN) × (List (Int × Int)) × Int)→Option (aZ ((List aN) × (List (Int × Int)) × Int) (Ex ((List aN) × (List (Int × Int))) (List aN))):=
 fun zz=>match zz with
 |(out,at_,t32)=>
 bif (decide (t32<p.buses))then
 bB ((0:Int)≤t32∧t32<(s_.badBus.length:Int)) (
 bif (at' s_.badBus t32.toNat)then
 some (.next (out,at_,(IntKind.wrap .i64 (t32+1))))
 else
 (bX r_1 t32).bind fun r_2=>
 bif (!((bH dS r_2 at_).isSome))then
 bB (((out.length+[(⟨([]:List Int),([]:List Int)⟩:aN)].length)*48≤140737488355328)∧(out.length+[(⟨([]:List Int),([]:List Int)⟩:aN)].length≤4611686018427387904)) (
 bB (((0:Int)≤((bH dS r_2 (gY dS r_2 (out.length:Int) at_)).getD 0)∧((bH dS r_2 (gY dS r_2 (out.length:Int) at_)).getD 0)<((out++[(⟨([]:List Int),([]:List Int)⟩:aN)]).length:Int))∧((((at' (out++[(⟨([]:List Int),([]:List Int)⟩:aN)]) (((bH dS r_2 (gY dS r_2 (out.length:Int) at_)).getD 0).toNat)).buses).length+[t32].length)*8≤140737488355328)∧(((at' (out++[(⟨([]:List Int),([]:List Int)⟩:aN)]) (((bH dS r_2 (gY dS r_2 (out.length:Int) at_)).getD 0).toNat)).buses).length+[t32].length≤4611686018427387904)) (
 some (.next (((out++[(⟨([]:List Int),([]:List Int)⟩:aN)]).set (((bH dS r_2 (gY dS r_2 (out.length:Int) at_)).getD 0).toNat) (⟨(((at' (out++[(⟨([]:List Int),([]:List Int)⟩:aN)]) (((bH dS r_2 (gY dS r_2 (out.length:Int) at_)).getD 0).toNat)).buses)++[t32]),(at' (out++[(⟨([]:List Int),([]:List Int)⟩:aN)]) (((bH dS r_2 (gY dS r_2 (out.length:Int) at_)).getD 0).toNat)).sources⟩:aN)),(gY dS r_2 (out.length:Int) at_),(IntKind.wrap .i64 (t32+1))))))
 else
 bB (((0:Int)≤((bH dS r_2 at_).getD 0)∧((bH dS r_2 at_).getD 0)<(out.length:Int))∧((((at' out (((bH dS r_2 at_).getD 0).toNat)).buses).length+[t32].length)*8≤140737488355328)∧(((at' out (((bH dS r_2 at_).getD 0).toNat)).buses).length+[t32].length≤4611686018427387904)) (
 some (.next ((out.set (((bH dS r_2 at_).getD 0).toNat) (⟨(((at' out (((bH dS r_2 at_).getD 0).toNat)).buses)++[t32]),(at' out (((bH dS r_2 at_).getD 0).toNat)).sources⟩:aN)),at_,(IntKind.wrap .i64 (t32+1))))))
 else
 some (.done (.brk (out,at_)))
def fH (p:ai) (s_:State) (r_1:aW) (at_1:(List (Int × Int))):((List aN) × Int)→Option (aZ ((List aN) × Int) (Ex (List aN) (List aN))):=
 fun zz=>match zz with
 |(out2,t78)=>
 bif (decide (t78<(p.sources.length:Int)))then
 bB ((0:Int)≤t78∧t78<(p.sources.length:Int)) (
 bB (((0:Int)≤t78∧t78<(s_.on_.length:Int))∧(gB [((at' s_.on_ t78.toNat),true)]=true→(0:Int)≤t78∧t78<(s_.badSource.length:Int))∧(gB [((bif (at' s_.on_ t78.toNat)then(!(at' s_.badSource t78.toNat))else false),true)]=true→(0:Int)≤(at' p.sources t78.toNat).bus∧(at' p.sources t78.toNat).bus<(s_.badBus.length:Int))) (
 bif (bif (bif (at' s_.on_ t78.toNat)then(!(at' s_.badSource t78.toNat))else false)then(!(at' s_.badBus (((at' p.sources t78.toNat).bus).toNat)))else false)then
 (bX r_1 ((at' p.sources t78.toNat).bus)).bind fun r_3=>
 bB (((0:Int)≤((bH dS r_3 at_1).getD 0)∧((bH dS r_3 at_1).getD 0)<(out2.length:Int))∧((((at' out2 (((bH dS r_3 at_1).getD 0).toNat)).sources).length+[t78].length)*8≤140737488355328)∧(((at' out2 (((bH dS r_3 at_1).getD 0).toNat)).sources).length+[t78].length≤4611686018427387904)) (
 some (.next ((out2.set (((bH dS r_3 at_1).getD 0).toNat) (⟨(at' out2 (((bH dS r_3 at_1).getD 0).toNat)).buses,(((at' out2 (((bH dS r_3 at_1).getD 0).toNat)).sources)++[t78])⟩:aN)),(IntKind.wrap .i64 (t78+1)))))
 else
 some (.next (out2,(IntKind.wrap .i64 (t78+1))))))
 else
 some (.done (.brk out2))
def mJ (p:ai) (s_:State):Option (List aN):=
 (nk p s_).bind fun r_=>
 (lG r_.1 r_.2.1 r_.2.2.1 r_.2.2.2.1 r_.2.2.2.2.1 r_.2.2.2.2.2.1 r_.2.2.2.2.2.2.1 r_.2.2.2.2.2.2.2.1 r_.2.2.2.2.2.2.2.2.1 r_.2.2.2.2.2.2.2.2.2.1 r_.2.2.2.2.2.2.2.2.2.2 (⟨([]:(List (Int × Int)))⟩:aW)).bind fun r_1=>
 Option.bind (av (fG p s_ r_1) FUEL (([]:List aN),([]:(List (Int × Int))),0)) fun o=>match o with
 | .ret v=>some v
 | .brk (out1,at_1)=>
 Option.bind (av (fH p s_ r_1 at_1) FUEL (out1,0)) fun o=>match o with
 | .ret v=>some v
 | .brk out3=>
 some out3
def kG (r_1:(List aN)) (t25:Int):((List Bool) × Int)→Option (aZ ((List Bool) × Int) (Ex (List Bool) (aZ ((List Bool) × Int) (Ex (List Bool) ((List Bool) × Int))))):=
 fun zz=>match zz with
 |(out2,t32)=>
 bif (decide (t32<(((at' r_1 t25.toNat).buses).length:Int)))then
 bB ((0:Int)≤t32∧t32<(((at' r_1 t25.toNat).buses).length:Int)) (
 bB ((0:Int)≤(at' ((at' r_1 t25.toNat).buses) t32.toNat)∧(at' ((at' r_1 t25.toNat).buses) t32.toNat)<(out2.length:Int)) (
 some (.next ((out2.set ((at' ((at' r_1 t25.toNat).buses) t32.toNat).toNat) (decide (0<(((at' r_1 t25.toNat).sources).length:Int)))),(IntKind.wrap .i64 (t32+1))))))
 else
 some (.done (.brk out2))
def kH (r_1:(List aN)):((List Bool) × Int)→Option (aZ ((List Bool) × Int) (Ex (List Bool) ((List Bool) × Int))):=
 fun zz=>match zz with
 |(out,t25)=>
 bif (decide (t25<(r_1.length:Int)))then
 bB ((0:Int)≤t25∧t25<(r_1.length:Int)) (
 Option.bind (av (kG r_1 t25) FUEL (out,0)) fun o=>match o with
 | .ret v=>some v
 | .brk out3=>
 some (.next (out3,(IntKind.wrap .i64 (t25+1)))))
 else
 some (.done (.brk out))
def oJ (p:ai) (s_:State):Option ((List Bool) × Int):=
 (dB p s_).bind fun r_=>
 bif (!decide (r_=0))then
 some (([]:List Bool),r_)
 else
 bB (((0:Int)≤p.buses)∧((1:Int)*p.buses≤281474976710656)∧((p.buses:Int)≤9223372036854775807)) (
 (mJ p s_).bind fun r_1=>
 Option.bind (av (kH r_1) FUEL ((List.replicate p.buses.toNat (false:Bool)),0)) fun o=>match o with
 | .ret v=>some v
 | .brk out1=>
 some (out1,0))
def jP (p:ai) (r_:((List Bool) × Int)):((List aI) × Int)→Option (aZ ((List aI) × Int) (Ex (List aI) ((List aI) × Int))):=
 fun zz=>match zz with
 |(out,t26)=>
 bif (decide (t26<(p.racks.length:Int)))then
 bB ((0:Int)≤t26∧t26<(p.racks.length:Int)) (
 bB (gB [((decide (0≤(((at' p.racks t26.toNat).feeds).e0))),true)]=true→(0:Int)≤((at' p.racks t26.toNat).feeds).e0∧((at' p.racks t26.toNat).feeds).e0<(r_.1.length:Int)) (
 bB (gB [((decide (0≤(((at' p.racks t26.toNat).feeds).e1))),true)]=true→(0:Int)≤((at' p.racks t26.toNat).feeds).e1∧((at' p.racks t26.toNat).feeds).e1<(r_.1.length:Int)) (
 bB (((out.length+[(⟨(bif (decide (0≤(((at' p.racks t26.toNat).feeds).e0)))then(at' r_.1 ((((at' p.racks t26.toNat).feeds).e0).toNat))else false),(bif (decide (0≤(((at' p.racks t26.toNat).feeds).e1)))then(at' r_.1 ((((at' p.racks t26.toNat).feeds).e1).toNat))else false)⟩:aI)].length)*2≤140737488355328)∧(out.length+[(⟨(bif (decide (0≤(((at' p.racks t26.toNat).feeds).e0)))then(at' r_.1 ((((at' p.racks t26.toNat).feeds).e0).toNat))else false),(bif (decide (0≤(((at' p.racks t26.toNat).feeds).e1)))then(at' r_.1 ((((at' p.racks t26.toNat).feeds).e1).toNat))else false)⟩:aI)].length≤4611686018427387904)) (
 some (.next ((out++[(⟨(bif (decide (0≤(((at' p.racks t26.toNat).feeds).e0)))then(at' r_.1 ((((at' p.racks t26.toNat).feeds).e0).toNat))else false),(bif (decide (0≤(((at' p.racks t26.toNat).feeds).e1)))then(at' r_.1 ((((at' p.racks t26.toNat).feeds).e1).toNat))else false)⟩:aI)]),(IntKind.wrap .i64 (t26+1))))))))
 else
 some (.done (.brk out))
def qf (p:ai) (s_:State):Option ((List aI) × Int):=
 (oJ p s_).bind fun r_=>
 bif (!decide (r_.2=0))then
 some (([]:List aI),r_.2)
 else
 Option.bind (av (jP p r_) FUEL (([]:List aI),0)) fun o=>match o with
 | .ret v=>some v
 | .brk out1=>
 some (out1,0)
def nQ (x:aI):Option Bool:=
 some (bif x.e0 then true else x.e1)
def iW (p:ai) (r_2:((List aI) × Int)) (r_3:((List aI) × Int)):((List Int) × Int)→Option (aZ ((List Int) × Int) (Ex (List Int) ((List Int) × Int))):=
 fun zz=>match zz with
 |(out,t58)=>
 bif (decide (t58<(p.racks.length:Int)))then
 (nQ (at' r_2.1 t58.toNat)).bind fun r_4=>
 (bif gB [(r_4,true)]then nQ (at' r_3.1 t58.toNat)else some default).bind fun r_5=>
 bB (((0:Int)≤t58∧t58<(r_2.1.length:Int))∧(gB [(r_4,true)]=true→(0:Int)≤t58∧t58<(r_3.1.length:Int))) (
 bif (bif r_4 then(!r_5)else false)then
 bB (((out.length+[t58].length)*8≤140737488355328)∧(out.length+[t58].length≤4611686018427387904)) (
 some (.next ((out++[t58]),(IntKind.wrap .i64 (t58+1)))))
 else
 some (.next (out,(IntKind.wrap .i64 (t58+1)))))
 else
 some (.done (.brk out))
def kg (p:ai) (s_:State) (bus:Int):Option ((List Int) × Int):=
 (bI p s_ bus).bind fun r_=>
 bif (!decide (r_.2=0))then
 some (([]:List Int),r_.2)
 else
 bif (!r_.1.cleared)then
 some (([]:List Int),4)
 else
 (pK p r_.1.state (⟨1,bus⟩:Part)).bind fun r_1=>
 (qf p s_).bind fun r_2=>
 (qf p r_1.1).bind fun r_3=>
 Option.bind (av (iW p r_2 r_3) FUEL (([]:List Int),0)) fun o=>match o with
 | .ret v=>some v
 | .brk out1=>
 some (out1,0)
def kZ (a:(List Int)) (b:(List Int)):Int→Option (aZ Int (Ex Unit Bool)):=
 fun i=>
 bif (decide (i<(a.length:Int)))then
 bB (((0:Int)≤i∧i<(a.length:Int))∧((0:Int)≤i∧i<(b.length:Int))) (
 bif (!decide ((at' a i.toNat)=(at' b i.toNat)))then
 some (.done (.ret false))
 else
 some (.next (IntKind.wrap .i64 (i+1))))
 else
 some (.done (.brk ()))
def iG (a:(List Int)) (b:(List Int)):Option Bool:=
 bif (!decide ((a.length:Int)=(b.length:Int)))then
 some false
 else
 Option.bind (av (kZ a b) FUEL (0)) fun o=>match o with
 | .ret v=>some v
 | .brk _=>
 some true
def qp:Option (ai × State):=
 bB (((0:Int)≤2)∧((1:Int)*2≤281474976710656)∧((2:Int)≤9223372036854775807)∧((0:Int)≤1)∧((1:Int)*1≤281474976710656)∧((1:Int)≤9223372036854775807)∧((0:Int)≤3)∧((1:Int)*3≤281474976710656)∧((3:Int)≤9223372036854775807)) (
 some ((⟨3,[(⟨0,1,500,0,20⟩:Source)],[(⟨0,1,3,400,10,[(⟨1000,400⟩:aF),(⟨10000,100⟩:aF)]⟩:Link),(⟨1,2,3,400,10,[(⟨1000,50⟩:aF)]⟩:Link)],[(⟨(⟨2,(-1)⟩:aM),100,1⟩:aJ),(⟨(⟨1,2⟩:aM),100,0⟩:aJ)]⟩:ai),(⟨[true,true],(List.replicate 2 (false:Bool)),(List.replicate 2 (false:Bool)),[true],(List.replicate 1 (false:Bool)),(List.replicate 3 (false:Bool)),(List.replicate 3 (false:Bool))⟩:State)))
def fO:Option Bool:=
 (qp).bind fun r_=>
 (bI r_.1 r_.2 2).bind fun r_1=>
 (fq r_.1 r_.2 2).bind fun r_2=>
 (kg r_.1 r_.2 2).bind fun r_3=>
 bif (bif (bif (bif (bif (bif (bif (bif (!decide (r_1.2=0))then true else(!decide (r_2.2=0)))then true else(!decide (r_3.2=0)))then true else(!r_2.1))then true else(!decide ((r_1.1.events.length:Int)=1)))then true else(!((decide (((at' r_1.1.events 0).millis)=50)) && ((decide (((at' r_1.1.events 0).link)=1)) && true))))then true else(!r_1.1.cleared))then true else(!decide (r_1.1.energy=5000000)))then
 bB (gB [((bif (bif (bif (bif (!decide (r_1.2=0))then true else(!decide (r_2.2=0)))then true else(!decide (r_3.2=0)))then true else(!r_2.1))then true else(!decide ((r_1.1.events.length:Int)=1))),false)]=true→(0:Int)≤0∧0<(r_1.1.events.length:Int)) (
 some false)
 else
 (iG r_3.1 [0]).bind fun r_4=>
 bB (gB [((bif (bif (bif (bif (!decide (r_1.2=0))then true else(!decide (r_2.2=0)))then true else(!decide (r_3.2=0)))then true else(!r_2.1))then true else(!decide ((r_1.1.events.length:Int)=1))),false)]=true→(0:Int)≤0∧0<(r_1.1.events.length:Int)) (
 bif (!r_4)then
 some false
 else
 bB ((0:Int)≤1∧1<(r_.1.links.length:Int)) (
 (bI (⟨r_.1.buses,r_.1.sources,(r_.1.links.set 1 (⟨(at' r_.1.links 1).a,(at' r_.1.links 1).b,(at' r_.1.links 1).kind,(at' r_.1.links 1).most,(at' r_.1.links 1).aX,([]:List aF)⟩:Link)),r_.1.racks⟩:ai) r_.2 2).bind fun r_5=>
 (fq (⟨r_.1.buses,r_.1.sources,(r_.1.links.set 1 (⟨(at' r_.1.links 1).a,(at' r_.1.links 1).b,(at' r_.1.links 1).kind,(at' r_.1.links 1).most,(at' r_.1.links 1).aX,([]:List aF)⟩:Link)),r_.1.racks⟩:ai) r_.2 2).bind fun r_6=>
 bB (gB [((bif (bif (bif (bif (decide (r_5.2=0))then(decide (r_6.2=0))else false)then(!r_6.1)else false)then r_5.1.cleared else false)then(decide ((r_5.1.events.length:Int)=1))else false),true)]=true→(0:Int)≤0∧0<(r_5.1.events.length:Int)) (
 some (bif (bif (bif (bif (bif (bif (decide (r_5.2=0))then(decide (r_6.2=0))else false)then(!r_6.1)else false)then r_5.1.cleared else false)then(decide ((r_5.1.events.length:Int)=1))else false)then((decide (((at' r_5.1.events 0).millis)=100)) && ((decide (((at' r_5.1.events 0).link)=0)) && true))else false)then(decide (r_5.1.millis=100))else false))))
def nM (l:(List Source)):Option (List Source):=
 bB ((l.length*40≤140737488355328)∧(l.length≤4611686018427387904)) (
 some l)
def qo (l:(List aF)):Option (List aF):=
 bB ((l.length*16≤140737488355328)∧(l.length≤4611686018427387904)) (
 some l)
def nT (x:Link):Option Link:=
 (qo x.trip).bind fun r_=>
 some (⟨x.a,x.b,x.kind,x.most,x.aX,r_⟩:Link)
def fJ (l:(List Link)):((List Link) × Int)→Option (aZ ((List Link) × Int) (Ex (List Link) (List Link))):=
 fun zz=>match zz with
 |(out,i)=>
 bif (decide (i<(l.length:Int)))then
 (nT (at' l i.toNat)).bind fun r_=>
 bB (((0:Int)≤i∧i<(l.length:Int))∧((out.length+[r_].length)*64≤140737488355328)∧(out.length+[r_].length≤4611686018427387904)) (
 some (.next ((out++[r_]),(IntKind.wrap .i64 (i+1)))))
 else
 some (.done (.brk out))
def qm (l:(List Link)):Option (List Link):=
 Option.bind (av (fJ l) FUEL (([]:List Link),0)) fun o=>match o with
 | .ret v=>some v
 | .brk out1=>
 some out1
def qw (l:(List aJ)):Option (List aJ):=
 bB ((l.length*32≤140737488355328)∧(l.length≤4611686018427387904)) (
 some l)
def mK (x:ai):Option ai:=
 (nM x.sources).bind fun r_=>
 (qm x.links).bind fun r_1=>
 (qw x.racks).bind fun r_2=>
 some (⟨x.buses,r_,r_1,r_2⟩:ai)
def bK (l:(List Bool)):Option (List Bool):=
 bB ((l.length*1≤140737488355328)∧(l.length≤4611686018427387904)) (
 some l)
def gH (x:State):Option State:=
 (bK x.closed).bind fun r_=>
 (bK x.locked).bind fun r_1=>
 (bK x.badLink).bind fun r_2=>
 (bK x.on_).bind fun r_3=>
 (bK x.badSource).bind fun r_4=>
 (bK x.earthed).bind fun r_5=>
 (bK x.badBus).bind fun r_6=>
 some (⟨r_,r_1,r_2,r_3,r_4,r_5,r_6⟩:State)
def vv (x:Int) (n:Int):Option Int:=
 bif (decide (n<1))then
 some 0
 else
 bB (n≠(0:Int)) (
 bif (decide ((Int.tmod x n)<0))then
 some (IntKind.wrap .i64 ((Int.tmod x n)+n))
 else
 some (Int.tmod x n))
def lV (p:ai) (s_:State):Int→Option (aZ Int (Ex Unit Bool)):=
 fun i=>
 bif (decide (i<(p.links.length:Int)))then
 bB (((0:Int)≤i∧i<(p.links.length:Int))∧(gB [((decide (((at' p.links i.toNat).kind)=1)),true)]=true→(0:Int)≤i∧i<(s_.closed.length:Int))∧(gB [((!(at' s_.closed i.toNat)),false),((decide (((at' p.links i.toNat).kind)=1)),true)]=true→(0:Int)≤i∧i<(s_.locked.length:Int))) (
 bif (bif (decide (((at' p.links i.toNat).kind)=1))then(bif (!(at' s_.closed i.toNat))then true else(at' s_.locked i.toNat))else false)then
 some (.done (.ret false))
 else
 some (.next (IntKind.wrap .i64 (i+1))))
 else
 some (.done (.brk ()))
def pG (p:ai) (s_:State):Option Bool:=
 bif (bif (bif (bif (bif (bif (bif (!decide ((s_.closed.length:Int)=(p.links.length:Int)))then true else(!decide ((s_.locked.length:Int)=(p.links.length:Int))))then true else(!decide ((s_.badLink.length:Int)=(p.links.length:Int))))then true else(!decide ((s_.on_.length:Int)=(p.sources.length:Int))))then true else(!decide ((s_.badSource.length:Int)=(p.sources.length:Int))))then true else(!decide ((s_.earthed.length:Int)=p.buses)))then true else(!decide ((s_.badBus.length:Int)=p.buses)))then
 some false
 else
 Option.bind (av (lV p s_) FUEL (0)) fun o=>match o with
 | .ret v=>some v
 | .brk _=>
 some true
def d9 (p:ai) (s_:State):Option Int:=
 (kK p).bind fun r_=>
 (bif gB [((decide (r_=0)),true)]then pG p s_ else some default).bind fun r_1=>
 bif (bif (decide (r_=0))then(!r_1)else false)then
 some 9
 else
 some r_
def mF (p:ai) (s_:State) (k:Int):Option Bool:=
 bB (((0:Int)≤k∧k<(s_.on_.length:Int))∧(gB [((at' s_.on_ k.toNat),true)]=true→(0:Int)≤k∧k<(s_.badSource.length:Int))∧(gB [((bif (at' s_.on_ k.toNat)then(!(at' s_.badSource k.toNat))else false),true)]=true→(0:Int)≤k∧k<(p.sources.length:Int))∧(gB [((bif (at' s_.on_ k.toNat)then(!(at' s_.badSource k.toNat))else false),true)]=true→(0:Int)≤(at' p.sources k.toNat).bus∧(at' p.sources k.toNat).bus<(s_.badBus.length:Int))) (
 some (bif (bif (at' s_.on_ k.toNat)then(!(at' s_.badSource k.toNat))else false)then(!(at' s_.badBus (((at' p.sources k.toNat).bus).toNat)))else false))
def eB (p:ai) (s_:State) (i:Int):Option Bool:=
 bB (((0:Int)≤i∧i<(s_.closed.length:Int))∧(gB [((at' s_.closed i.toNat),true)]=true→(0:Int)≤i∧i<(s_.badLink.length:Int))∧(gB [((bif (at' s_.closed i.toNat)then(!(at' s_.badLink i.toNat))else false),true)]=true→(0:Int)≤i∧i<(p.links.length:Int))∧(gB [((bif (at' s_.closed i.toNat)then(!(at' s_.badLink i.toNat))else false),true)]=true→(0:Int)≤(at' p.links i.toNat).a∧(at' p.links i.toNat).a<(s_.badBus.length:Int))∧(gB [((bif (bif (at' s_.closed i.toNat)then(!(at' s_.badLink i.toNat))else false)then(!(at' s_.badBus (((at' p.links i.toNat).a).toNat)))else false),true)]=true→(0:Int)≤i∧i<(p.links.length:Int))∧(gB [((bif (bif (at' s_.closed i.toNat)then(!(at' s_.badLink i.toNat))else false)then(!(at' s_.badBus (((at' p.links i.toNat).a).toNat)))else false),true)]=true→(0:Int)≤(at' p.links i.toNat).b∧(at' p.links i.toNat).b<(s_.badBus.length:Int))) (
 some (bif (bif (bif (at' s_.closed i.toNat)then(!(at' s_.badLink i.toNat))else false)then(!(at' s_.badBus (((at' p.links i.toNat).a).toNat)))else false)then(!(at' s_.badBus (((at' p.links i.toNat).b).toNat)))else false))
def fI (l:(List Int)) (best:(List Int)):Int→Option (aZ Int (Ex Unit Bool)):=
 fun i=>
 bif (decide (i<(l.length:Int)))then
 bB (((0:Int)≤i∧i<(l.length:Int))∧((0:Int)≤i∧i<(best.length:Int))) (
 bif (!decide ((at' l i.toNat)=(at' best i.toNat)))then
 bB (((0:Int)≤i∧i<(l.length:Int))∧((0:Int)≤i∧i<(best.length:Int))) (
 some (.done (.ret (decide ((at' l i.toNat)<(at' best i.toNat))))))
 else
 some (.next (IntKind.wrap .i64 (i+1))))
 else
 some (.done (.brk ()))
def gJ (aX:Int) (l:(List Int)) (least:Int) (best:(List Int)):Option Bool:=
 bif (!decide (aX=least))then
 some (decide (aX<least))
 else
 bif (!decide ((l.length:Int)=(best.length:Int)))then
 some (decide ((l.length:Int)<(best.length:Int)))
 else
 Option.bind (av (fI l best) FUEL (0)) fun o=>match o with
 | .ret v=>some v
 | .brk _=>
 some false
def lH (rec:ai→State→Int→Int→(List Bool)→Option (Int × (List Int))) (p:ai) (s_:State) (from_:Int) (to_:Int) (met:(List Bool)):(Int × (List Int) × Int)→Option (aZ (Int × (List Int) × Int) (Ex (Int × (List Int)) (Int × (List Int)))):=
 fun zz=>match zz with
 |(aX,best,i)=>
 bif (decide (i<(p.links.length:Int)))then
 Option.bind (α:=(Int × (List Int))) (
 bB ((0:Int)≤i∧i<(p.links.length:Int)) (
 bif (decide (((at' p.links i.toNat).a)=from_))then
 bif (decide (((at' p.links i.toNat).b)=from_))then
 (bif gB [((bif (decide (((at' p.links i.toNat).a)<0))then true else(at' ((([]:List Bool)++met).set from_.toNat true) (((at' p.links i.toNat).a).toNat))),false)]then eB p s_ i else some default).bind fun r_=>
 bB (gB [((decide (((at' p.links i.toNat).a)<0)),false)]=true→(0:Int)≤(at' p.links i.toNat).a∧(at' p.links i.toNat).a<(((([]:List Bool)++met).set from_.toNat true).length:Int)) (
 bif (bif (bif (decide (((at' p.links i.toNat).a)<0))then true else(at' ((([]:List Bool)++met).set from_.toNat true) (((at' p.links i.toNat).a).toNat)))then true else(!r_))then
 some (aX,best)
 else
 (rec p s_ ((at' p.links i.toNat).a) to_ ((([]:List Bool)++met).set from_.toNat true)).bind fun r_1=>
 bif (decide (r_1.1<0))then
 some (aX,best)
 else
 bB ((([i].length+r_1.2.length)*8≤140737488355328)∧([i].length+r_1.2.length≤4611686018427387904)) (
 (bif gB [((decide (aX<0)),false)]then gJ (IntKind.wrap .i64 (((at' p.links i.toNat).aX)+r_1.1)) ([i]++r_1.2) aX best else some default).bind fun r_2=>
 bif (bif (decide (aX<0))then true else r_2)then
 some ((IntKind.wrap .i64 (((at' p.links i.toNat).aX)+r_1.1)),([i]++r_1.2))
 else
 some (aX,best)))
 else
 (bif gB [((bif (decide (((at' p.links i.toNat).b)<0))then true else(at' ((([]:List Bool)++met).set from_.toNat true) (((at' p.links i.toNat).b).toNat))),false)]then eB p s_ i else some default).bind fun r_3=>
 bB (gB [((decide (((at' p.links i.toNat).b)<0)),false)]=true→(0:Int)≤(at' p.links i.toNat).b∧(at' p.links i.toNat).b<(((([]:List Bool)++met).set from_.toNat true).length:Int)) (
 bif (bif (bif (decide (((at' p.links i.toNat).b)<0))then true else(at' ((([]:List Bool)++met).set from_.toNat true) (((at' p.links i.toNat).b).toNat)))then true else(!r_3))then
 some (aX,best)
 else
 (rec p s_ ((at' p.links i.toNat).b) to_ ((([]:List Bool)++met).set from_.toNat true)).bind fun r_4=>
 bif (decide (r_4.1<0))then
 some (aX,best)
 else
 bB ((([i].length+r_4.2.length)*8≤140737488355328)∧([i].length+r_4.2.length≤4611686018427387904)) (
 (bif gB [((decide (aX<0)),false)]then gJ (IntKind.wrap .i64 (((at' p.links i.toNat).aX)+r_4.1)) ([i]++r_4.2) aX best else some default).bind fun r_5=>
 bif (bif (decide (aX<0))then true else r_5)then
 some ((IntKind.wrap .i64 (((at' p.links i.toNat).aX)+r_4.1)),([i]++r_4.2))
 else
 some (aX,best)))
 else
 bif (decide (((at' p.links i.toNat).b)=from_))then
 (bif gB [((bif (decide (((at' p.links i.toNat).a)<0))then true else(at' ((([]:List Bool)++met).set from_.toNat true) (((at' p.links i.toNat).a).toNat))),false)]then eB p s_ i else some default).bind fun r_6=>
 bB (gB [((decide (((at' p.links i.toNat).a)<0)),false)]=true→(0:Int)≤(at' p.links i.toNat).a∧(at' p.links i.toNat).a<(((([]:List Bool)++met).set from_.toNat true).length:Int)) (
 bif (bif (bif (decide (((at' p.links i.toNat).a)<0))then true else(at' ((([]:List Bool)++met).set from_.toNat true) (((at' p.links i.toNat).a).toNat)))then true else(!r_6))then
 some (aX,best)
 else
 (rec p s_ ((at' p.links i.toNat).a) to_ ((([]:List Bool)++met).set from_.toNat true)).bind fun r_7=>
 bif (decide (r_7.1<0))then
 some (aX,best)
 else
 bB ((([i].length+r_7.2.length)*8≤140737488355328)∧([i].length+r_7.2.length≤4611686018427387904)) (
 (bif gB [((decide (aX<0)),false)]then gJ (IntKind.wrap .i64 (((at' p.links i.toNat).aX)+r_7.1)) ([i]++r_7.2) aX best else some default).bind fun r_8=>
 bif (bif (decide (aX<0))then true else r_8)then
 some ((IntKind.wrap .i64 (((at' p.links i.toNat).aX)+r_7.1)),([i]++r_7.2))
 else
 some (aX,best)))
 else
 some (aX,best))) fun(ohm2,best2)=>
 some (.next (ohm2,best2,(IntKind.wrap .i64 (i+1))))
 else
 some (.done (.brk (aX,best)))
def lN (rec:ai→State→Int→Int→(List Bool)→Option (Int × (List Int))) (p:ai) (s_:State) (from_:Int) (to_:Int) (met:(List Bool)):Option (Int × (List Int)):=
 bif (decide (from_=to_))then
 some (0,([]:List Int))
 else
 bB (((([]:List Bool).length+met.length)*1≤140737488355328)∧(([]:List Bool).length+met.length≤4611686018427387904)) (
 bB ((0:Int)≤from_∧from_<((([]:List Bool)++met).length:Int)) (
 Option.bind (av (lH rec p s_ from_ to_ met) FUEL ((-1),([]:List Int),0)) fun o=>match o with
 | .ret v=>some v
 | .brk (ohm1,best1)=>
 some (ohm1,best1)))
def gW:Nat→ai→State→Int→Int→(List Bool)→Option (Int × (List Int))
 |0,_,_,_,_,_=>none
 |n+1,p,s_,from_,to_,met=>lN (gW n) p s_ from_ to_ met
def dO (p:ai) (s_:State) (bus:Int):((List Short) × Int)→Option (aZ ((List Short) × Int) (Ex (List Short) ((List Short) × Int))):=
 fun zz=>match zz with
 |(out,k)=>
 bB (gB [((decide (k<(p.sources.length:Int))),true)]=true→(0:Int)≤bus∧bus<(s_.badBus.length:Int)) (
 bif (bif (decide (k<(p.sources.length:Int)))then(!(at' s_.badBus bus.toNat))else false)then
 Option.bind (α:=(List Short)) (
 (mF p s_ k).bind fun r_1=>
 bif (!r_1)then
 some out
 else
 (gW FUEL p s_ ((at' p.sources k.toNat).bus) bus (List.replicate p.buses.toNat (false:Bool))).bind fun r_2=>
 bB (((0:Int)≤k∧k<(p.sources.length:Int))∧((0:Int)≤p.buses)∧((1:Int)*p.buses≤281474976710656)∧((p.buses:Int)≤9223372036854775807)) (
 bif (decide (r_2.1<0))then
 some out
 else
 bB ((0:Int)≤k∧k<(p.sources.length:Int)) (
 bB ((IntKind.wrap .i64 (r_2.1+((at' p.sources k.toNat).aX)))≠(0:Int)) (
 bif (decide ((IntKind.wrap .i64 ((IntKind.wrap .i64 (Int.tdiv (400000:Int) (IntKind.wrap .i64 (r_2.1+((at' p.sources k.toNat).aX)))))*(IntKind.wrap .i64 (r_2.1+((at' p.sources k.toNat).aX)))))<400000))then
 bB (((out.length+[(⟨k,(IntKind.wrap .i64 (r_2.1+((at' p.sources k.toNat).aX))),(IntKind.wrap .i64 ((IntKind.wrap .i64 (Int.tdiv (400000:Int) (IntKind.wrap .i64 (r_2.1+((at' p.sources k.toNat).aX)))))+1)),r_2.2⟩:Short)].length)*48≤140737488355328)∧(out.length+[(⟨k,(IntKind.wrap .i64 (r_2.1+((at' p.sources k.toNat).aX))),(IntKind.wrap .i64 ((IntKind.wrap .i64 (Int.tdiv (400000:Int) (IntKind.wrap .i64 (r_2.1+((at' p.sources k.toNat).aX)))))+1)),r_2.2⟩:Short)].length≤4611686018427387904)) (
 some (out++[(⟨k,(IntKind.wrap .i64 (r_2.1+((at' p.sources k.toNat).aX))),(IntKind.wrap .i64 ((IntKind.wrap .i64 (Int.tdiv (400000:Int) (IntKind.wrap .i64 (r_2.1+((at' p.sources k.toNat).aX)))))+1)),r_2.2⟩:Short)]))
 else
 bB (((out.length+[(⟨k,(IntKind.wrap .i64 (r_2.1+((at' p.sources k.toNat).aX))),(IntKind.wrap .i64 (Int.tdiv (400000:Int) (IntKind.wrap .i64 (r_2.1+((at' p.sources k.toNat).aX))))),r_2.2⟩:Short)].length)*48≤140737488355328)∧(out.length+[(⟨k,(IntKind.wrap .i64 (r_2.1+((at' p.sources k.toNat).aX))),(IntKind.wrap .i64 (Int.tdiv (400000:Int) (IntKind.wrap .i64 (r_2.1+((at' p.sources k.toNat).aX))))),r_2.2⟩:Short)].length≤4611686018427387904)) (
 some (out++[(⟨k,(IntKind.wrap .i64 (r_2.1+((at' p.sources k.toNat).aX))),(IntKind.wrap .i64 (Int.tdiv (400000:Int) (IntKind.wrap .i64 (r_2.1+((at' p.sources k.toNat).aX))))),r_2.2⟩:Short)])))))) fun out2=>
 some (.next (out2,(IntKind.wrap .i64 (k+1))))
 else
 some (.done (.brk out)))
def nP (p:ai) (s_:State) (bus:Int):Option ((List Short) × Int):=
 (d9 p s_).bind fun r_=>
 bif (!decide (r_=0))then
 some (([]:List Short),r_)
 else
 bif (bif (decide (bus<0))then true else(decide (p.buses≤bus)))then
 some (([]:List Short),1)
 else
 Option.bind (av (dO p s_ bus) FUEL (([]:List Short),0)) fun o=>match o with
 | .ret v=>some v
 | .brk out1=>
 some (out1,0)
def iI (p:ai) (l:(List Short)) (n:Int):((List Bool) × Int)→Option (aZ ((List Bool) × Int) (Ex (List Bool) (aZ ((List Int) × Int) (Ex (List Int) ((List Int) × Int))))):=
 fun zz=>match zz with
 |(has,i)=>
 bB ((0:Int)≤n∧n<(l.length:Int)) (
 bif (decide (i<(((at' l n.toNat).links).length:Int)))then
 bB (((0:Int)≤n∧n<(l.length:Int))∧((0:Int)≤i∧i<(((at' l n.toNat).links).length:Int))) (
 bif (bif (decide ((at' ((at' l n.toNat).links) i.toNat)<0))then true else(decide ((p.links.length:Int)≤(at' ((at' l n.toNat).links) i.toNat))))then
 some (.done (.ret (.done (.ret (([]:List Int),1)))))
 else
 bB ((0:Int)≤(at' ((at' l n.toNat).links) i.toNat)∧(at' ((at' l n.toNat).links) i.toNat)<(has.length:Int)) (
 some (.next ((has.set ((at' ((at' l n.toNat).links) i.toNat).toNat) true),(IntKind.wrap .i64 (i+1))))))
 else
 some (.done (.brk has)))
def iy (l:(List Short)) (n:Int) (has1:(List Bool)):((List Int) × Int)→Option (aZ ((List Int) × Int) (Ex (List Int) (aZ ((List Int) × Int) (Ex (List Int) ((List Int) × Int))))):=
 fun zz=>match zz with
 |(out2,k)=>
 bif (decide (k<(out2.length:Int)))then
 bB ((0:Int)≤k∧k<(has1.length:Int)) (
 bif (at' has1 k.toNat)then
 bB (((0:Int)≤k∧k<(out2.length:Int))∧((0:Int)≤n∧n<(l.length:Int))) (
 some (.next ((out2.set k.toNat (IntKind.wrap .i64 ((at' out2 k.toNat)+((at' l n.toNat).amps)))),(IntKind.wrap .i64 (k+1)))))
 else
 some (.next (out2,(IntKind.wrap .i64 (k+1)))))
 else
 some (.done (.brk out2))
def iA (p:ai) (l:(List Short)):((List Int) × Int)→Option (aZ ((List Int) × Int) (Ex (List Int) ((List Int) × Int))):=
 fun zz=>match zz with
 |(out,n)=>
 bif (decide (n<(l.length:Int)))then
 bB (((0:Int)≤n∧n<(l.length:Int))∧(gB [((decide (((at' l n.toNat).amps)<0)),false)]=true→(0:Int)≤n∧n<(l.length:Int))) (
 bif (bif (decide (((at' l n.toNat).amps)<0))then true else(decide (1000000<((at' l n.toNat).amps))))then
 some (.done (.ret (([]:List Int),1)))
 else
 bB (((0:Int)≤(p.links.length:Int))∧((1:Int)*(p.links.length:Int)≤281474976710656)∧(((p.links.length:Int):Int)≤9223372036854775807)) (
 Option.bind (av (iI p l n) FUEL ((List.replicate ((p.links.length:Int).toNat) (false:Bool)),0)) fun o=>match o with
 | .ret v=>some v
 | .brk has1=>
 Option.bind (av (iy l n has1) FUEL (out,0)) fun o=>match o with
 | .ret v=>some v
 | .brk out3=>
 some (.next (out3,(IntKind.wrap .i64 (n+1))))))
 else
 some (.done (.brk out))
def mP (p:ai) (l:(List Short)):Option ((List Int) × Int):=
 (kK p).bind fun r_=>
 bif (!decide (r_=0))then
 some (([]:List Int),r_)
 else
 bif (decide (8<(l.length:Int)))then
 some (([]:List Int),1)
 else
 bB (((0:Int)≤(p.links.length:Int))∧((8:Int)*(p.links.length:Int)≤281474976710656)∧(((p.links.length:Int):Int)≤9223372036854775807)) (
 Option.bind (av (iA p l) FUEL ((List.replicate ((p.links.length:Int).toNat) (0:Int)),0)) fun o=>match o with
 | .ret v=>some v
 | .brk out1=>
 some (out1,0))
def jV (x:Link) (amps:Int):(Int × Bool × Int)→Option (aZ (Int × Bool × Int) (Ex (Int × Bool) (Int × Bool))):=
 fun zz=>match zz with
 |(out,ok,i)=>
 bif (decide (i<(x.trip.length:Int)))then
 bB ((0:Int)≤i∧i<(x.trip.length:Int)) (
 bif (decide (((at' x.trip i.toNat).amps)≤amps))then
 bB ((0:Int)≤i∧i<(x.trip.length:Int)) (
 some (.next ((at' x.trip i.toNat).millis,true,(IntKind.wrap .i64 (i+1)))))
 else
 some (.next (out,ok,(IntKind.wrap .i64 (i+1)))))
 else
 some (.done (.brk (out,ok)))
def mD (x:Link) (amps:Int):Option (Int × Bool):=
 Option.bind (av (jV x amps) FUEL (0,false,0)) fun o=>match o with
 | .ret v=>some v
 | .brk (out1,ok1)=>
 some (out1,ok1)
def j5 (p:ai) (s_:State) (i:Int) (amps:Int) (since:Int):Option Int:=
 bB (((0:Int)≤i∧i<(p.links.length:Int))∧(gB [((!decide (((at' p.links i.toNat).kind)=3)),false)]=true→(0:Int)≤i∧i<(s_.closed.length:Int))∧(gB [((bif (!decide (((at' p.links i.toNat).kind)=3))then true else(!(at' s_.closed i.toNat))),false)]=true→(0:Int)≤i∧i<(s_.badLink.length:Int))) (
 bif (bif (bif (!decide (((at' p.links i.toNat).kind)=3))then true else(!(at' s_.closed i.toNat)))then true else(at' s_.badLink i.toNat))then
 some (-1)
 else
 (mD (at' p.links i.toNat) amps).bind fun r_=>
 bB ((0:Int)≤i∧i<(p.links.length:Int)) (
 bif (!r_.2)then
 some (-1)
 else
 some (IntKind.wrap .i64 (since+r_.1))))
def lW (r_2:((List Short) × Int)):(Int × Int)→Option (aZ (Int × Int) (Ex Int (aZ ((List Event) × Int × Int × (List Bool) × (List Int) × (List Int)) (Ex Unit (ah × Int))))):=
 fun zz=>match zz with
 |(total,k)=>
 bif (decide (k<(r_2.1.length:Int)))then
 bB ((0:Int)≤k∧k<(r_2.1.length:Int)) (
 some (.next ((IntKind.wrap .i64 (total+((at' r_2.1 k.toNat).amps))),(IntKind.wrap .i64 (k+1)))))
 else
 some (.done (.brk total))
def jU (p:ai) (r_1:State) (c2:Int) (c4:(List Bool)) (before:(List Int)) (r_3:((List Int) × Int)):((List Int) × Int × Int)→Option (aZ ((List Int) × Int × Int) (Ex ((List Int) × Int) (aZ ((List Event) × Int × Int × (List Bool) × (List Int) × (List Int)) (Ex Unit (ah × Int))))):=
 fun zz=>match zz with
 |(since1,next_,i)=>
 bif (decide (i<(p.links.length:Int)))then
 Option.bind (α:=((List Int) × Int)) (
 bB (((0:Int)≤i∧i<(r_3.1.length:Int))∧((0:Int)≤i∧i<(before.length:Int))) (
 bif (!decide ((at' r_3.1 i.toNat)=(at' before i.toNat)))then
 bB ((0:Int)≤i∧i<(since1.length:Int)) (
 (j5 p (⟨c4,r_1.locked,r_1.badLink,r_1.on_,r_1.badSource,r_1.earthed,r_1.badBus⟩:State) i (at' r_3.1 i.toNat) (at' (since1.set i.toNat c2) i.toNat)).bind fun r_4=>
 bB (((0:Int)≤i∧i<(r_3.1.length:Int))∧((0:Int)≤i∧i<((since1.set i.toNat c2).length:Int))) (
 bif (bif (decide (0≤r_4))then(bif (decide (next_<0))then true else(decide (r_4<next_)))else false)then
 some ((since1.set i.toNat c2),r_4)
 else
 some ((since1.set i.toNat c2),next_)))
 else
 (j5 p (⟨c4,r_1.locked,r_1.badLink,r_1.on_,r_1.badSource,r_1.earthed,r_1.badBus⟩:State) i (at' r_3.1 i.toNat) (at' since1 i.toNat)).bind fun r_5=>
 bB (((0:Int)≤i∧i<(r_3.1.length:Int))∧((0:Int)≤i∧i<(since1.length:Int))) (
 bif (bif (decide (0≤r_5))then(bif (decide (next_<0))then true else(decide (r_5<next_)))else false)then
 some (since1,r_5)
 else
 some (since1,next_)))) fun(since3,next_2)=>
 some (.next (since3,next_2,(IntKind.wrap .i64 (i+1))))
 else
 some (.done (.brk (since1,next_)))
def jO (p:ai) (r_1:State) (c2:Int) (r_3:((List Int) × Int)) (since2:(List Int)) (next_1:Int):((List Event) × (List Bool) × Int)→Option (aZ ((List Event) × (List Bool) × Int) (Ex ((List Event) × (List Bool)) (aZ ((List Event) × Int × Int × (List Bool) × (List Int) × (List Int)) (Ex Unit (ah × Int))))):=
 fun zz=>match zz with
 |(c01,c41,i1)=>
 bif (decide (i1<(p.links.length:Int)))then
 (j5 p (⟨c41,r_1.locked,r_1.badLink,r_1.on_,r_1.badSource,r_1.earthed,r_1.badBus⟩:State) i1 (at' r_3.1 i1.toNat) (at' since2 i1.toNat)).bind fun r_6=>
 bB (((0:Int)≤i1∧i1<(r_3.1.length:Int))∧((0:Int)≤i1∧i1<(since2.length:Int))) (
 bif (bif (decide (0≤r_6))then(decide (r_6≤(if next_1<c2 then c2 else next_1)))else false)then
 bB (((c01.length+[(⟨(if next_1<c2 then c2 else next_1),i1⟩:Event)].length)*16≤140737488355328)∧(c01.length+[(⟨(if next_1<c2 then c2 else next_1),i1⟩:Event)].length≤4611686018427387904)) (
 bB ((0:Int)≤i1∧i1<(c41.length:Int)) (
 some (.next ((c01++[(⟨(if next_1<c2 then c2 else next_1),i1⟩:Event)]),(c41.set i1.toNat false),(IntKind.wrap .i64 (i1+1))))))
 else
 some (.next (c01,c41,(IntKind.wrap .i64 (i1+1)))))
 else
 some (.done (.brk (c01,c41)))
def jW (p:ai) (r_1:State) (c2:Int) (r_3:((List Int) × Int)) (since2:(List Int)) (next_1:Int):((List Event) × (List Bool) × Int)→Option (aZ ((List Event) × (List Bool) × Int) (Ex ((List Event) × (List Bool)) (aZ ((List Event) × Int × Int × (List Bool) × (List Int) × (List Int)) (Ex Unit (ah × Int))))):=
 fun zz=>match zz with
 |(c03,c43,i2)=>
 bif (decide (i2<(p.links.length:Int)))then
 (j5 p (⟨c43,r_1.locked,r_1.badLink,r_1.on_,r_1.badSource,r_1.earthed,r_1.badBus⟩:State) i2 (at' r_3.1 i2.toNat) (at' since2 i2.toNat)).bind fun r_7=>
 bB (((0:Int)≤i2∧i2<(r_3.1.length:Int))∧((0:Int)≤i2∧i2<(since2.length:Int))) (
 bif (bif (decide (0≤r_7))then(decide (r_7≤(if next_1<c2 then c2 else next_1)))else false)then
 bB (((c03.length+[(⟨(if next_1<c2 then c2 else next_1),i2⟩:Event)].length)*16≤140737488355328)∧(c03.length+[(⟨(if next_1<c2 then c2 else next_1),i2⟩:Event)].length≤4611686018427387904)) (
 bB ((0:Int)≤i2∧i2<(c43.length:Int)) (
 some (.next ((c03++[(⟨(if next_1<c2 then c2 else next_1),i2⟩:Event)]),(c43.set i2.toNat false),(IntKind.wrap .i64 (i2+1))))))
 else
 some (.next (c03,c43,(IntKind.wrap .i64 (i2+1)))))
 else
 some (.done (.brk (c03,c43)))
def ic (p:ai) (bus:Int) (r_1:State):((List Event) × Int × Int × (List Bool) × (List Int) × (List Int))→Option (aZ ((List Event) × Int × Int × (List Bool) × (List Int) × (List Int)) (Ex Unit (ah × Int))):=
 fun zz=>match zz with
 |(c0,c2,c3,c4,since,before)=>
 (nP p (⟨c4,r_1.locked,r_1.badLink,r_1.on_,r_1.badSource,r_1.earthed,r_1.badBus⟩:State) bus).bind fun r_2=>
 (mP p r_2.1).bind fun r_3=>
 Option.bind (av (lW r_2) FUEL (0,0)) fun o=>match o with
 | .ret v=>some v
 | .brk total1=>
 bif (decide (total1=0))then
 some (.done (.ret ((⟨c0,true,c2,c3,(⟨c4,r_1.locked,r_1.badLink,r_1.on_,r_1.badSource,r_1.earthed,r_1.badBus⟩:State)⟩:ah),0)))
 else
 Option.bind (av (jU p r_1 c2 c4 before r_3) FUEL (since,(-1),0)) fun o=>match o with
 | .ret v=>some v
 | .brk (since2,next_1)=>
 bif (decide (next_1<0))then
 some (.done (.ret ((⟨c0,false,c2,c3,(⟨c4,r_1.locked,r_1.badLink,r_1.on_,r_1.badSource,r_1.earthed,r_1.badBus⟩:State)⟩:ah),0)))
 else
 bB (1000≠(0:Int)) (
 bif (decide ((IntKind.wrap .i64 ((IntKind.wrap .i64 (Int.tdiv (IntKind.wrap .i64 (total1*total1)) 1000))*1000))<(IntKind.wrap .i64 (total1*total1))))then
 Option.bind (av (jO p r_1 c2 r_3 since2 next_1) FUEL (c0,c4,0)) fun o=>match o with
 | .ret v=>some v
 | .brk (c02,c42)=>
 some (.next (c02,(if next_1<c2 then c2 else next_1),(IntKind.wrap .i64 (c3+(IntKind.wrap .i64 ((IntKind.wrap .i64 ((IntKind.wrap .i64 (Int.tdiv (IntKind.wrap .i64 (total1*total1)) 1000))+1))*(IntKind.wrap .i64 ((if next_1<c2 then c2 else next_1) - c2)))))),c42,since2,r_3.1))
 else
 Option.bind (av (jW p r_1 c2 r_3 since2 next_1) FUEL (c0,c4,0)) fun o=>match o with
 | .ret v=>some v
 | .brk (c04,c44)=>
 some (.next (c04,(if next_1<c2 then c2 else next_1),(IntKind.wrap .i64 (c3+(IntKind.wrap .i64 ((IntKind.wrap .i64 (Int.tdiv (IntKind.wrap .i64 (total1*total1)) 1000))*(IntKind.wrap .i64 ((if next_1<c2 then c2 else next_1) - c2)))))),c44,since2,r_3.1)))
def bT (p:ai) (s_:State) (bus:Int):Option (ah × Int):=
 (d9 p s_).bind fun r_=>
 bif (!decide (r_=0))then
 some ((⟨([]:List Event),false,0,0,(⟨([]:List Bool),([]:List Bool),([]:List Bool),([]:List Bool),([]:List Bool),([]:List Bool),([]:List Bool)⟩:State)⟩:ah),r_)
 else
 bif (bif (decide (bus<0))then true else(decide (p.buses≤bus)))then
 some ((⟨([]:List Event),false,0,0,(⟨([]:List Bool),([]:List Bool),([]:List Bool),([]:List Bool),([]:List Bool),([]:List Bool),([]:List Bool)⟩:State)⟩:ah),1)
 else
 (gH s_).bind fun r_1=>
 bB (((0:Int)≤(p.links.length:Int))∧((8:Int)*(p.links.length:Int)≤281474976710656)∧(((p.links.length:Int):Int)≤9223372036854775807)) (
 bB (((0:Int)≤(p.links.length:Int))∧((8:Int)*(p.links.length:Int)≤281474976710656)∧(((p.links.length:Int):Int)≤9223372036854775807)) (
 Option.bind (av (ic p bus r_1) FUEL (([]:List Event),0,0,r_1.closed,(List.replicate ((p.links.length:Int).toNat) (0:Int)),(List.replicate ((p.links.length:Int).toNat) (0:Int)))) fun o=>match o with
 | .ret v=>some v
 | .brk _=>none))
def jJ (a:(List Bool)) (b:(List Bool)):Int→Option (aZ Int (Ex Unit Bool)):=
 fun i=>
 bif (decide (i<(a.length:Int)))then
 bB (((0:Int)≤i∧i<(a.length:Int))∧((0:Int)≤i∧i<(b.length:Int))) (
 bif (!((at' a i.toNat)==(at' b i.toNat)))then
 some (.done (.ret false))
 else
 some (.next (IntKind.wrap .i64 (i+1))))
 else
 some (.done (.brk ()))
def cK (a:(List Bool)) (b:(List Bool)):Option Bool:=
 bif (!decide ((a.length:Int)=(b.length:Int)))then
 some false
 else
 Option.bind (av (jJ a b) FUEL (0)) fun o=>match o with
 | .ret v=>some v
 | .brk _=>
 some true
def gI (a:State) (b:State):Option Bool:=
 (cK a.closed b.closed).bind fun r_=>
 (bif gB [(r_,true)]then cK a.locked b.locked else some default).bind fun r_1=>
 (bif gB [((bif r_ then r_1 else false),true)]then cK a.badLink b.badLink else some default).bind fun r_2=>
 (bif gB [((bif (bif r_ then r_1 else false)then r_2 else false),true)]then cK a.on_ b.on_ else some default).bind fun r_3=>
 (bif gB [((bif (bif (bif r_ then r_1 else false)then r_2 else false)then r_3 else false),true)]then cK a.badSource b.badSource else some default).bind fun r_4=>
 (bif gB [((bif (bif (bif (bif r_ then r_1 else false)then r_2 else false)then r_3 else false)then r_4 else false),true)]then cK a.earthed b.earthed else some default).bind fun r_5=>
 (bif gB [((bif (bif (bif (bif (bif r_ then r_1 else false)then r_2 else false)then r_3 else false)then r_4 else false)then r_5 else false),true)]then cK a.badBus b.badBus else some default).bind fun r_6=>
 some (bif (bif (bif (bif (bif (bif r_ then r_1 else false)then r_2 else false)then r_3 else false)then r_4 else false)then r_5 else false)then r_6 else false)
def mW (a:aA) (b:ah):Int→Option (aZ Int (Ex Unit Bool)):=
 fun i=>
 bif (decide (i<(a.events.length:Int)))then
 bB (((0:Int)≤i∧i<(a.events.length:Int))∧((0:Int)≤i∧i<(b.events.length:Int))) (
 bif (!((decide (((at' a.events i.toNat).millis)=((at' b.events i.toNat).millis))) && ((decide (((at' a.events i.toNat).link)=((at' b.events i.toNat).link))) && true)))then
 some (.done (.ret false))
 else
 some (.next (IntKind.wrap .i64 (i+1))))
 else
 some (.done (.brk ()))
def jq (a:aA) (b:ah):Option Bool:=
 (bif gB [((bif (bif (bif (!decide ((a.events.length:Int)=(b.events.length:Int)))then true else(!(a.cleared==b.cleared)))then true else(!decide (a.millis=b.millis)))then true else(!decide (a.energy=b.energy))),false)]then gI a.state b.state else some default).bind fun r_=>
 bif (bif (bif (bif (bif (!decide ((a.events.length:Int)=(b.events.length:Int)))then true else(!(a.cleared==b.cleared)))then true else(!decide (a.millis=b.millis)))then true else(!decide (a.energy=b.energy)))then true else(!r_))then
 some false
 else
 Option.bind (av (mW a b) FUEL (0)) fun o=>match o with
 | .ret v=>some v
 | .brk _=>
 some true
def ji (p:ai) (bus:Int) (r_:(ah × Int)):Int→Option (aZ Int (Ex Unit (Bool × Int))):=
 fun i=>
 bif (decide (i<(r_.1.events.length:Int)))then
 bB (((0:Int)≤i∧i<(r_.1.events.length:Int))∧((0:Int)≤(at' r_.1.events i.toNat).link∧(at' r_.1.events i.toNat).link<(p.links.length:Int))) (
 bif (bif (!decide (((at' p.links (((at' r_.1.events i.toNat).link).toNat)).a)=bus))then(!decide (((at' p.links (((at' r_.1.events i.toNat).link).toNat)).b)=bus))else false)then
 some (.done (.ret (false,0)))
 else
 some (.next (IntKind.wrap .i64 (i+1))))
 else
 some (.done (.brk ()))
def je (p:ai) (s_:State) (bus:Int):Option (Bool × Int):=
 (bT p s_ bus).bind fun r_=>
 bif (bif (!decide (r_.2=0))then true else(!r_.1.cleared))then
 some (false,r_.2)
 else
 Option.bind (av (ji p bus r_) FUEL (0)) fun o=>match o with
 | .ret v=>some v
 | .brk _=>
 some (true,0)
def jT (p:ai) (s_:State) (b:Int):((List Bool) × Int)→Option (aZ ((List Bool) × Int) (Ex (List Bool) (aZ ((List Bool) × Int) (Ex (List Bool) (List Bool))))):=
 fun zz=>match zz with
 |(out2,i)=>
 bif (decide (i<(p.links.length:Int)))then
 bB ((0:Int)≤i∧i<(p.links.length:Int)) (
 (eB p s_ i).bind fun r_=>
 bB ((gB [(r_,true)]=true→(0:Int)≤(at' p.links i.toNat).a∧(at' p.links i.toNat).a<(out2.length:Int))∧(gB [((at' out2 (((at' p.links i.toNat).a).toNat)),false),(r_,true)]=true→(0:Int)≤(at' p.links i.toNat).b∧(at' p.links i.toNat).b<(out2.length:Int))) (
 bif (bif r_ then(bif (at' out2 (((at' p.links i.toNat).a).toNat))then true else(at' out2 (((at' p.links i.toNat).b).toNat)))else false)then
 bB ((0:Int)≤(at' p.links i.toNat).a∧(at' p.links i.toNat).a<(out2.length:Int)) (
 bB ((0:Int)≤(at' p.links i.toNat).b∧(at' p.links i.toNat).b<((out2.set (((at' p.links i.toNat).a).toNat) true).length:Int)) (
 some (.next (((out2.set (((at' p.links i.toNat).a).toNat) true).set (((at' p.links i.toNat).b).toNat) true),(IntKind.wrap .i64 (i+1))))))
 else
 some (.next (out2,(IntKind.wrap .i64 (i+1))))))
 else
 some (.done (.brk out2))
def jR (p:ai) (s_:State) (b:Int):((List Bool) × Int)→Option (aZ ((List Bool) × Int) (Ex (List Bool) (List Bool))):=
 fun zz=>match zz with
 |(out,n)=>
 bif (decide (n<p.buses))then
 Option.bind (av (jT p s_ b) FUEL (out,0)) fun o=>match o with
 | .ret v=>some v
 | .brk out3=>
 some (.next (out3,(IntKind.wrap .i64 (n+1))))
 else
 some (.done (.brk out))
def kM (p:ai) (s_:State) (b:Int):Option (List Bool):=
 bB (((0:Int)≤p.buses)∧((1:Int)*p.buses≤281474976710656)∧((p.buses:Int)≤9223372036854775807)) (
 bB ((0:Int)≤b∧b<((List.replicate p.buses.toNat (false:Bool)).length:Int)) (
 Option.bind (av (jR p s_ b) FUEL (((List.replicate p.buses.toNat (false:Bool)).set b.toNat true),0)) fun o=>match o with
 | .ret v=>some v
 | .brk out1=>
 some out1))
def iX (p:ai) (r_2:(List Bool)):((List Bool) × Int)→Option (aZ ((List Bool) × Int) (Ex (List Bool) (aZ ((List Bool) × Int) (Ex (List Bool) ((List Bool) × Int))))):=
 fun zz=>match zz with
 |(out2,b)=>
 bif (decide (b<p.buses))then
 bB (((0:Int)≤b∧b<(out2.length:Int))∧(gB [((at' out2 b.toNat),false)]=true→(0:Int)≤b∧b<(r_2.length:Int))) (
 some (.next ((out2.set b.toNat (bif (at' out2 b.toNat)then true else(at' r_2 b.toNat))),(IntKind.wrap .i64 (b+1)))))
 else
 some (.done (.brk out2))
def iU (p:ai) (s_:State):((List Bool) × Int)→Option (aZ ((List Bool) × Int) (Ex (List Bool) ((List Bool) × Int))):=
 fun zz=>match zz with
 |(out,k)=>
 bif (decide (k<(p.sources.length:Int)))then
 (mF p s_ k).bind fun r_1=>
 bif (!r_1)then
 some (.next (out,(IntKind.wrap .i64 (k+1))))
 else
 (kM p s_ ((at' p.sources k.toNat).bus)).bind fun r_2=>
 bB ((0:Int)≤k∧k<(p.sources.length:Int)) (
 Option.bind (av (iX p r_2) FUEL (out,0)) fun o=>match o with
 | .ret v=>some v
 | .brk out3=>
 some (.next (out3,(IntKind.wrap .i64 (k+1)))))
 else
 some (.done (.brk out))
def oD (p:ai) (s_:State):Option ((List Bool) × Int):=
 (d9 p s_).bind fun r_=>
 bif (!decide (r_=0))then
 some (([]:List Bool),r_)
 else
 bB (((0:Int)≤p.buses)∧((1:Int)*p.buses≤281474976710656)∧((p.buses:Int)≤9223372036854775807)) (
 Option.bind (av (iU p s_) FUEL ((List.replicate p.buses.toNat (false:Bool)),0)) fun o=>match o with
 | .ret v=>some v
 | .brk out1=>
 some (out1,0))
def jQ (p:ai) (r_:((List Bool) × Int)):((List aI) × Int)→Option (aZ ((List aI) × Int) (Ex (List aI) ((List aI) × Int))):=
 fun zz=>match zz with
 |(out,r_1)=>
 bif (decide (r_1<(p.racks.length:Int)))then
 bB ((0:Int)≤r_1∧r_1<(p.racks.length:Int)) (
 bB (((0:Int)≤((at' p.racks r_1.toNat).feeds).e0∧((at' p.racks r_1.toNat).feeds).e0<(r_.1.length:Int))∧(gB [((decide (0≤(((at' p.racks r_1.toNat).feeds).e1))),true)]=true→(0:Int)≤(if((at' p.racks r_1.toNat).feeds).e1<0 then 0 else((at' p.racks r_1.toNat).feeds).e1)∧(if((at' p.racks r_1.toNat).feeds).e1<0 then 0 else((at' p.racks r_1.toNat).feeds).e1)<(r_.1.length:Int))∧((out.length+[(⟨(at' r_.1 ((((at' p.racks r_1.toNat).feeds).e0).toNat)),(bif (decide (0≤(((at' p.racks r_1.toNat).feeds).e1)))then(at' r_.1 ((if((at' p.racks r_1.toNat).feeds).e1<0 then 0 else((at' p.racks r_1.toNat).feeds).e1).toNat))else false)⟩:aI)].length)*2≤140737488355328)∧(out.length+[(⟨(at' r_.1 ((((at' p.racks r_1.toNat).feeds).e0).toNat)),(bif (decide (0≤(((at' p.racks r_1.toNat).feeds).e1)))then(at' r_.1 ((if((at' p.racks r_1.toNat).feeds).e1<0 then 0 else((at' p.racks r_1.toNat).feeds).e1).toNat))else false)⟩:aI)].length≤4611686018427387904)) (
 some (.next ((out++[(⟨(at' r_.1 ((((at' p.racks r_1.toNat).feeds).e0).toNat)),(bif (decide (0≤(((at' p.racks r_1.toNat).feeds).e1)))then(at' r_.1 ((if((at' p.racks r_1.toNat).feeds).e1<0 then 0 else((at' p.racks r_1.toNat).feeds).e1).toNat))else false)⟩:aI)]),(IntKind.wrap .i64 (r_1+1))))))
 else
 some (.done (.brk out))
def qg (p:ai) (s_:State):Option ((List aI) × Int):=
 (oD p s_).bind fun r_=>
 bif (!decide (r_.2=0))then
 some (([]:List aI),r_.2)
 else
 Option.bind (av (jQ p r_) FUEL (([]:List aI),0)) fun o=>match o with
 | .ret v=>some v
 | .brk out1=>
 some (out1,0)
def iV (p:ai) (r_1:((List aI) × Int)) (r_2:((List aI) × Int)):((List Int) × Int)→Option (aZ ((List Int) × Int) (Ex (List Int) ((List Int) × Int))):=
 fun zz=>match zz with
 |(out,r_3)=>
 bif (decide (r_3<(p.racks.length:Int)))then
 bB (((0:Int)≤r_3∧r_3<(r_1.1.length:Int))∧(gB [((at' r_1.1 r_3.toNat).e0,false)]=true→(0:Int)≤r_3∧r_3<(r_1.1.length:Int))∧(gB [((bif (at' r_1.1 r_3.toNat).e0 then true else(at' r_1.1 r_3.toNat).e1),true)]=true→(0:Int)≤r_3∧r_3<(r_2.1.length:Int))∧(gB [((bif (bif (at' r_1.1 r_3.toNat).e0 then true else(at' r_1.1 r_3.toNat).e1)then(!((at' r_2.1 r_3.toNat).e0))else false),true)]=true→(0:Int)≤r_3∧r_3<(r_2.1.length:Int))) (
 bif (bif (bif (bif (at' r_1.1 r_3.toNat).e0 then true else(at' r_1.1 r_3.toNat).e1)then(!((at' r_2.1 r_3.toNat).e0))else false)then(!((at' r_2.1 r_3.toNat).e1))else false)then
 bB (((out.length+[r_3].length)*8≤140737488355328)∧(out.length+[r_3].length≤4611686018427387904)) (
 some (.next ((out++[r_3]),(IntKind.wrap .i64 (r_3+1)))))
 else
 some (.next (out,(IntKind.wrap .i64 (r_3+1)))))
 else
 some (.done (.brk out))
def lZ (p:ai) (s_:State) (bus:Int):Option ((List Int) × Int):=
 (bT p s_ bus).bind fun r_=>
 bif (!decide (r_.2=0))then
 some (([]:List Int),r_.2)
 else
 bif (!r_.1.cleared)then
 some (([]:List Int),4)
 else
 bB ((0:Int)≤bus∧bus<(r_.1.state.badBus.length:Int)) (
 (qg p s_).bind fun r_1=>
 (qg p (⟨r_.1.state.closed,r_.1.state.locked,r_.1.state.badLink,r_.1.state.on_,r_.1.state.badSource,r_.1.state.earthed,(r_.1.state.badBus.set bus.toNat true)⟩:State)).bind fun r_2=>
 Option.bind (av (iV p r_1 r_2) FUEL (([]:List Int),0)) fun o=>match o with
 | .ret v=>some v
 | .brk out1=>
 some (out1,0))
def jl (a:(List Source)) (b:(List Source)):Int→Option (aZ Int (Ex Unit Bool)):=
 fun i=>
 bif (decide (i<(a.length:Int)))then
 bB (((0:Int)≤i∧i<(a.length:Int))∧((0:Int)≤i∧i<(b.length:Int))) (
 bif (!((decide (((at' a i.toNat).bus)=((at' b i.toNat).bus))) && ((decide (((at' a i.toNat).kind)=((at' b i.toNat).kind))) && ((decide (((at' a i.toNat).power)=((at' b i.toNat).power))) && ((decide (((at' a i.toNat).sync)=((at' b i.toNat).sync))) && ((decide (((at' a i.toNat).aX)=((at' b i.toNat).aX))) && true))))))then
 some (.done (.ret false))
 else
 some (.next (IntKind.wrap .i64 (i+1))))
 else
 some (.done (.brk ()))
def lg (a:(List Source)) (b:(List Source)):Option Bool:=
 bif (!decide ((a.length:Int)=(b.length:Int)))then
 some false
 else
 Option.bind (av (jl a b) FUEL (0)) fun o=>match o with
 | .ret v=>some v
 | .brk _=>
 some true
def kC (a:(List aF)) (b:(List aF)):Int→Option (aZ Int (Ex Unit Bool)):=
 fun i=>
 bif (decide (i<(a.length:Int)))then
 bB (((0:Int)≤i∧i<(a.length:Int))∧((0:Int)≤i∧i<(b.length:Int))) (
 bif (!((decide (((at' a i.toNat).amps)=((at' b i.toNat).amps))) && ((decide (((at' a i.toNat).millis)=((at' b i.toNat).millis))) && true)))then
 some (.done (.ret false))
 else
 some (.next (IntKind.wrap .i64 (i+1))))
 else
 some (.done (.brk ()))
def mV (a:(List aF)) (b:(List aF)):Option Bool:=
 bif (!decide ((a.length:Int)=(b.length:Int)))then
 some false
 else
 Option.bind (av (kC a b) FUEL (0)) fun o=>match o with
 | .ret v=>some v
 | .brk _=>
 some true
def nY (a:Link) (b:Link):Option Bool:=
 (bif gB [((bif (bif (bif (bif (decide (a.a=b.a))then(decide (a.b=b.b))else false)then(decide (a.kind=b.kind))else false)then(decide (a.most=b.most))else false)then(decide (a.aX=b.aX))else false),true)]then mV a.trip b.trip else some default).bind fun r_=>
 some (bif (bif (bif (bif (bif (decide (a.a=b.a))then(decide (a.b=b.b))else false)then(decide (a.kind=b.kind))else false)then(decide (a.most=b.most))else false)then(decide (a.aX=b.aX))else false)then r_ else false)
def kE (a:(List Link)) (b:(List Link)):Int→Option (aZ Int (Ex Unit Bool)):=
 fun i=>
 bif (decide (i<(a.length:Int)))then
 (nY (at' a i.toNat) (at' b i.toNat)).bind fun r_=>
 bB (((0:Int)≤i∧i<(a.length:Int))∧((0:Int)≤i∧i<(b.length:Int))) (
 bif (!r_)then
 some (.done (.ret false))
 else
 some (.next (IntKind.wrap .i64 (i+1))))
 else
 some (.done (.brk ()))
def mR (a:(List Link)) (b:(List Link)):Option Bool:=
 bif (!decide ((a.length:Int)=(b.length:Int)))then
 some false
 else
 Option.bind (av (kE a b) FUEL (0)) fun o=>match o with
 | .ret v=>some v
 | .brk _=>
 some true
def ku (a:(List aJ)) (b:(List aJ)):Int→Option (aZ Int (Ex Unit Bool)):=
 fun i=>
 bif (decide (i<(a.length:Int)))then
 bB (((0:Int)≤i∧i<(a.length:Int))∧((0:Int)≤i∧i<(b.length:Int))) (
 bif (!((decide ((((at' a i.toNat).feeds).e0)=(((at' b i.toNat).feeds).e0))) && ((decide ((((at' a i.toNat).feeds).e1)=(((at' b i.toNat).feeds).e1))) && ((decide (((at' a i.toNat).power)=((at' b i.toNat).power))) && ((decide (((at' a i.toNat).paths)=((at' b i.toNat).paths))) && true)))))then
 some (.done (.ret false))
 else
 some (.next (IntKind.wrap .i64 (i+1))))
 else
 some (.done (.brk ()))
def mQ (a:(List aJ)) (b:(List aJ)):Option Bool:=
 bif (!decide ((a.length:Int)=(b.length:Int)))then
 some false
 else
 Option.bind (av (ku a b) FUEL (0)) fun o=>match o with
 | .ret v=>some v
 | .brk _=>
 some true
def mU (a:ai) (b:ai):Option Bool:=
 (bif gB [((decide (a.buses=b.buses)),true)]then lg a.sources b.sources else some default).bind fun r_=>
 (bif gB [((bif (decide (a.buses=b.buses))then r_ else false),true)]then mR a.links b.links else some default).bind fun r_1=>
 (bif gB [((bif (bif (decide (a.buses=b.buses))then r_ else false)then r_1 else false),true)]then mQ a.racks b.racks else some default).bind fun r_2=>
 some (bif (bif (bif (decide (a.buses=b.buses))then r_ else false)then r_1 else false)then r_2 else false)
def dH  :((List Bool) × Int)→Option (aZ ((List Bool) × Int) (Ex Unit (aZ Int (Ex Unit Bool)))):=
 fun zz=>match zz with
 |(a5,i)=>
 bif (decide (i<(a5.length:Int)))then
 bB ((0:Int)≤i∧i<(a5.length:Int)) (
 some (.next ((a5.set i.toNat (!(at' a5 i.toNat))),(IntKind.wrap .i64 (i+1)))))
 else
 some (.done (.brk ()))
def gT (p:ai) (s_:State) (bus:Int) (r_2:ai) (r_3:State) (r_4:Int):Int→Option (aZ Int (Ex Unit Bool)):=
 fun t34=>
 bif (decide (t34<([bus,r_4].length:Int)))then
 bB ((0:Int)≤t34∧t34<([bus,r_4].length:Int)) (
 (bI r_2 r_3 (at' [bus,r_4] t34.toNat)).bind fun r_5=>
 (bT p s_ (at' [bus,r_4] t34.toNat)).bind fun r_6=>
 (bif gB [((!decide (r_5.2=r_6.2)),false)]then jq r_5.1 r_6.1 else some default).bind fun r_7=>
 bif (bif (!decide (r_5.2=r_6.2))then true else(!r_7))then
 some (.done (.ret false))
 else
 Option.bind (av dH FUEL (r_5.1.state.locked,0)) fun o=>match o with
 | .ret v=>some v
 | .brk _=>
 (fq r_2 r_3 (at' [bus,r_4] t34.toNat)).bind fun r_8=>
 (je p s_ (at' [bus,r_4] t34.toNat)).bind fun r_9=>
 bif (bif (!decide (r_8.2=r_9.2))then true else(!(r_8.1==r_9.1)))then
 some (.done (.ret false))
 else
 (kg r_2 r_3 (at' [bus,r_4] t34.toNat)).bind fun r_10=>
 (lZ p s_ (at' [bus,r_4] t34.toNat)).bind fun r_11=>
 (bif gB [((!decide (r_10.2=r_11.2)),false)]then iG r_10.1 r_11.1 else some default).bind fun r_12=>
 bif (bif (!decide (r_10.2=r_11.2))then true else(!r_12))then
 some (.done (.ret false))
 else
 some (.next (IntKind.wrap .i64 (t34+1))))
 else
 some (.done (.brk ()))
def fw (p:ai) (s_:State) (bus:Int):Option Bool:=
 (pW p).bind fun r_=>
 bif r_ then
 (fO).bind fun r_1=>
 some r_1
 else
 (mK p).bind fun r_2=>
 (gH s_).bind fun r_3=>
 (vv bus p.buses).bind fun r_4=>
 Option.bind (av (gT p s_ bus r_2 r_3 r_4) FUEL (0)) fun o=>match o with
 | .ret v=>some v
 | .brk _=>
 (mU p r_2).bind fun r_13=>
 (bif gB [(r_13,true)]then gI s_ r_3 else some default).bind fun r_14=>
 (bif gB [((bif r_13 then r_14 else false),true)]then fO else some default).bind fun r_15=>
 some (bif (bif r_13 then r_14 else false)then r_15 else false)
def jd (p:ai) (s_:State):((List aA) × Int)→Option (aZ ((List aA) × Int) (Ex (List aA) ((List aA) × Int))):=
 fun zz=>match zz with
 |(out,t19)=>
 bif (decide (t19<p.buses))then
 (bI p s_ t19).bind fun r_1=>
 bB (((out.length+[r_1.1].length)*216≤140737488355328)∧(out.length+[r_1.1].length≤4611686018427387904)) (
 some (.next ((out++[r_1.1]),(IntKind.wrap .i64 (t19+1)))))
 else
 some (.done (.brk out))
def fZ (p:ai) (s_:State):Option ((List aA) × Int):=
 (dB p s_).bind fun r_=>
 bif (!decide (r_=0))then
 some (([]:List aA),r_)
 else
 Option.bind (av (jd p s_) FUEL (([]:List aA),0)) fun o=>match o with
 | .ret v=>some v
 | .brk out1=>
 some (out1,0)
def jg (p:ai) (s_:State):((List ah) × Int)→Option (aZ ((List ah) × Int) (Ex (List ah) ((List ah) × Int))):=
 fun zz=>match zz with
 |(out,b)=>
 bif (decide (b<p.buses))then
 (bT p s_ b).bind fun r_1=>
 bB (((out.length+[r_1.1].length)*216≤140737488355328)∧(out.length+[r_1.1].length≤4611686018427387904)) (
 some (.next ((out++[r_1.1]),(IntKind.wrap .i64 (b+1)))))
 else
 some (.done (.brk out))
def fU (p:ai) (s_:State):Option ((List ah) × Int):=
 (d9 p s_).bind fun r_=>
 bif (!decide (r_=0))then
 some (([]:List ah),r_)
 else
 Option.bind (av (jg p s_) FUEL (([]:List ah),0)) fun o=>match o with
 | .ret v=>some v
 | .brk out1=>
 some (out1,0)
def gX (r_:((List aA) × Int)):(Int × Int × Int)→Option (aZ (Int × Int × Int) (Ex (Int × Int) (Int × Int × Int))):=
 fun zz=>match zz with
 |(bus,energy,t24)=>
 bif (decide (t24<(r_.1.length:Int)))then
 bB ((0:Int)≤t24∧t24<(r_.1.length:Int)) (
 bif (bif (at' r_.1 t24.toNat).cleared then(bif (decide (bus<0))then true else(decide (energy<((at' r_.1 t24.toNat).energy))))else false)then
 some (.next (t24,(at' r_.1 t24.toNat).energy,(IntKind.wrap .i64 (t24+1))))
 else
 some (.next (bus,energy,(IntKind.wrap .i64 (t24+1)))))
 else
 some (.done (.brk (bus,energy)))
def kN (p:ai) (s_:State):Option (Int × Int × Int):=
 (fZ p s_).bind fun r_=>
 bif (!decide (r_.2=0))then
 some (0,0,r_.2)
 else
 Option.bind (av (gX r_) FUEL ((-1),0,0)) fun o=>match o with
 | .ret v=>some v
 | .brk (bus1,energy1)=>
 some (bus1,energy1,0)
def ig (r_:((List ah) × Int)) (b:Int):(Bool × Int)→Option (aZ (Bool × Int) (Ex Bool (aZ Int (Ex Unit (Int × Int × Int))))):=
 fun zz=>match zz with
 |(best,c)=>
 bif (decide (c<(r_.1.length:Int)))then
 bB (((0:Int)≤c∧c<(r_.1.length:Int))∧(gB [((at' r_.1 c.toNat).cleared,true)]=true→(0:Int)≤c∧c<(r_.1.length:Int))∧(gB [((at' r_.1 c.toNat).cleared,true)]=true→(0:Int)≤b∧b<(r_.1.length:Int))∧(gB [((decide (((at' r_.1 b.toNat).energy)<((at' r_.1 c.toNat).energy))),false),((at' r_.1 c.toNat).cleared,true)]=true→(0:Int)≤c∧c<(r_.1.length:Int))∧(gB [((decide (((at' r_.1 b.toNat).energy)<((at' r_.1 c.toNat).energy))),false),((at' r_.1 c.toNat).cleared,true)]=true→(0:Int)≤b∧b<(r_.1.length:Int))) (
 bif (bif (at' r_.1 c.toNat).cleared then(bif (decide (((at' r_.1 b.toNat).energy)<((at' r_.1 c.toNat).energy)))then true else(bif (decide (((at' r_.1 c.toNat).energy)=((at' r_.1 b.toNat).energy)))then(decide (c<b))else false))else false)then
 some (.next (false,(IntKind.wrap .i64 (c+1))))
 else
 some (.next (best,(IntKind.wrap .i64 (c+1)))))
 else
 some (.done (.brk best))
def jY (r_:((List ah) × Int)):Int→Option (aZ Int (Ex Unit (Int × Int × Int))):=
 fun b=>
 bif (decide (b<(r_.1.length:Int)))then
 bB ((0:Int)≤b∧b<(r_.1.length:Int)) (
 Option.bind (av (ig r_ b) FUEL ((at' r_.1 b.toNat).cleared,0)) fun o=>match o with
 | .ret v=>some v
 | .brk best1=>
 bif best1 then
 bB ((0:Int)≤b∧b<(r_.1.length:Int)) (
 some (.done (.ret (b,(at' r_.1 b.toNat).energy,0))))
 else
 some (.next (IntKind.wrap .i64 (b+1))))
 else
 some (.done (.brk ()))
def kJ (p:ai) (s_:State):Option (Int × Int × Int):=
 (fU p s_).bind fun r_=>
 bif (!decide (r_.2=0))then
 some (0,0,r_.2)
 else
 Option.bind (av (jY r_) FUEL (0)) fun o=>match o with
 | .ret v=>some v
 | .brk _=>
 some ((-1),0,0)
def dm (r_2:((List aA) × Int)) (r_3:((List ah) × Int)):Int→Option (aZ Int (Ex Unit Bool)):=
 fun i=>
 bif (decide (i<(r_2.1.length:Int)))then
 (jq (⟨(at' r_2.1 i.toNat).events,(at' r_2.1 i.toNat).cleared,(at' r_2.1 i.toNat).millis,(at' r_2.1 i.toNat).energy,((at' r_2.1 i.toNat).state)⟩:aA) (⟨(at' r_3.1 i.toNat).events,(at' r_3.1 i.toNat).cleared,(at' r_3.1 i.toNat).millis,(at' r_3.1 i.toNat).energy,((at' r_3.1 i.toNat).state)⟩:ah)).bind fun r_4=>
 bB (((0:Int)≤i∧i<(r_2.1.length:Int))∧((0:Int)≤i∧i<(r_3.1.length:Int))) (
 bif (!r_4)then
 some (.done (.ret false))
 else
 some (.next (IntKind.wrap .i64 (i+1))))
 else
 some (.done (.brk ()))
def dD (p:ai) (s_:State) (x:Link) (amps:Int):Option Bool:=
 (pW p).bind fun r_=>
 bif (bif r_ then true else(decide (20<(x.trip.length:Int))))then
 (fO).bind fun r_1=>
 some r_1
 else
 (fZ p s_).bind fun r_2=>
 (fU p s_).bind fun r_3=>
 bif (bif (!decide (r_2.2=r_3.2))then true else(!decide ((r_2.1.length:Int)=(r_3.1.length:Int))))then
 some false
 else
 Option.bind (av (dm r_2 r_3) FUEL (0)) fun o=>match o with
 | .ret v=>some v
 | .brk _=>
 (kN p s_).bind fun r_5=>
 (kJ p s_).bind fun r_6=>
 (jB x amps).bind fun r_7=>
 (mD x amps).bind fun r_8=>
 (bif gB [((bif (bif (bif (bif (decide (r_5.1=r_6.1))then(decide (r_5.2.1=r_6.2.1))else false)then(decide (r_5.2.2=r_6.2.2))else false)then(decide (r_7.1=r_8.1))else false)then(r_7.2==r_8.2)else false),true)]then fO else some default).bind fun r_9=>
 some (bif (bif (bif (bif (bif (decide (r_5.1=r_6.1))then(decide (r_5.2.1=r_6.2.1))else false)then(decide (r_5.2.2=r_6.2.2))else false)then(decide (r_7.1=r_8.1))else false)then(r_7.2==r_8.2)else false)then r_9 else false)
def qY:Option Unit:=
 bB (((0:Int)≤2)∧((1:Int)*2≤281474976710656)∧((2:Int)≤9223372036854775807)∧((0:Int)≤1)∧((1:Int)*1≤281474976710656)∧((1:Int)≤9223372036854775807)∧((0:Int)≤3)∧((1:Int)*3≤281474976710656)∧((3:Int)≤9223372036854775807)) (
 some ())
def fD  :Int→Option (aZ Int (Ex Unit Bool)):=
 fun n=>
 bif (decide (n<512))then
 (qY).bind fun r_=>
 bB ((7≠(0:Int))∧(([(⟨0,1,500,0,20⟩:Source)].length+[(⟨3,2,5,0,(IntKind.wrap .i64 ((10:Int)+(IntKind.wrap .i64 ((Int.tmod n 7)*10))))⟩:Source)].length)*40≤140737488355328)∧([(⟨0,1,500,0,20⟩:Source)].length+[(⟨3,2,5,0,(IntKind.wrap .i64 ((10:Int)+(IntKind.wrap .i64 ((Int.tmod n 7)*10))))⟩:Source)].length≤4611686018427387904)) (
 bB (3≠(0:Int)) (
 bB (((0:Int)≤4)∧((1:Int)*4≤281474976710656)∧((4:Int)≤9223372036854775807)∧((0:Int)≤2)∧((1:Int)*2≤281474976710656)∧((2:Int)≤9223372036854775807)) (
 bB ((9≠(0:Int))∧(5≠(0:Int))∧((0:Int)≤0∧0<([(⟨1000,50⟩:aF)].length:Int))) (
 (dD (⟨4,([(⟨0,1,500,0,20⟩:Source)]++[(⟨3,2,5,0,(IntKind.wrap .i64 ((10:Int)+(IntKind.wrap .i64 ((Int.tmod n 7)*10))))⟩:Source)]),[(⟨0,1,3,400,10,[(⟨1000,400⟩:aF),(⟨10000,100⟩:aF)]⟩:Link),(⟨1,2,3,400,10,([(⟨1000,50⟩:aF)].set 0 (⟨(at' [(⟨1000,50⟩:aF)] 0).amps,(IntKind.wrap .i64 ((20:Int)+(IntKind.wrap .i64 ((Int.tmod (IntKind.wrap .i64 (Int.tdiv n 9)) 5)*20))))⟩:aF))⟩:Link),(⟨2,3,3,5,10,[(⟨1,(IntKind.wrap .i64 ((30:Int)+(IntKind.wrap .i64 ((Int.tmod n 3)*20))))⟩:aF)]⟩:Link),(⟨3,0,3,5,30,[(⟨3000,60⟩:aF),(⟨6000,(IntKind.wrap .i64 ((20:Int)+(IntKind.wrap .i64 ((Int.tmod (IntKind.wrap .i64 (Int.tdiv n 3)) 3)*30))))⟩:aF)]⟩:Link)],[(⟨(⟨2,(-1)⟩:aM),100,1⟩:aJ),(⟨(⟨1,2⟩:aM),100,0⟩:aJ)]⟩:ai) (⟨[true,(decide ((IntKind.wrap .i64 (((BitVec.ofInt (IntKind.bits .i64) n &&& BitVec.ofInt (IntKind.bits .i64) 1).toNat:Int)))=1)),(decide ((IntKind.wrap .i64 (((BitVec.ofInt (IntKind.bits .i64) n &&& BitVec.ofInt (IntKind.bits .i64) 2).toNat:Int)))=2)),(decide ((IntKind.wrap .i64 (((BitVec.ofInt (IntKind.bits .i64) n &&& BitVec.ofInt (IntKind.bits .i64) 4).toNat:Int)))=4))],(List.replicate 4 (false:Bool)),[(decide ((IntKind.wrap .i64 (((BitVec.ofInt (IntKind.bits .i64) n &&& BitVec.ofInt (IntKind.bits .i64) 8).toNat:Int)))=8)),false,(decide ((IntKind.wrap .i64 (((BitVec.ofInt (IntKind.bits .i64) n &&& BitVec.ofInt (IntKind.bits .i64) 16).toNat:Int)))=16)),false],[(decide ((IntKind.wrap .i64 (((BitVec.ofInt (IntKind.bits .i64) n &&& BitVec.ofInt (IntKind.bits .i64) 32).toNat:Int)))=0)),(decide ((IntKind.wrap .i64 (((BitVec.ofInt (IntKind.bits .i64) n &&& BitVec.ofInt (IntKind.bits .i64) 64).toNat:Int)))=64))],(List.replicate 2 (false:Bool)),(List.replicate 4 (false:Bool)),[false,(decide ((IntKind.wrap .i64 (((BitVec.ofInt (IntKind.bits .i64) n &&& BitVec.ofInt (IntKind.bits .i64) 128).toNat:Int)))=128)),false,false]⟩:State) (at' [(⟨0,1,3,400,10,[(⟨1000,400⟩:aF),(⟨10000,100⟩:aF)]⟩:Link),(⟨1,2,3,400,10,([(⟨1000,50⟩:aF)].set 0 (⟨(at' [(⟨1000,50⟩:aF)] 0).amps,(IntKind.wrap .i64 ((20:Int)+(IntKind.wrap .i64 ((Int.tmod (IntKind.wrap .i64 (Int.tdiv n 9)) 5)*20))))⟩:aF))⟩:Link),(⟨2,3,3,5,10,[(⟨1,(IntKind.wrap .i64 ((30:Int)+(IntKind.wrap .i64 ((Int.tmod n 3)*20))))⟩:aF)]⟩:Link),(⟨3,0,3,5,30,[(⟨3000,60⟩:aF),(⟨6000,(IntKind.wrap .i64 ((20:Int)+(IntKind.wrap .i64 ((Int.tmod (IntKind.wrap .i64 (Int.tdiv n 3)) 3)*30))))⟩:aF)]⟩:Link)] ((Int.tmod n 4).toNat)) (IntKind.wrap .i64 (n*40))).bind fun r_1=>
 (bif gB [((!r_1),false)]then fw (⟨4,([(⟨0,1,500,0,20⟩:Source)]++[(⟨3,2,5,0,(IntKind.wrap .i64 ((10:Int)+(IntKind.wrap .i64 ((Int.tmod n 7)*10))))⟩:Source)]),[(⟨0,1,3,400,10,[(⟨1000,400⟩:aF),(⟨10000,100⟩:aF)]⟩:Link),(⟨1,2,3,400,10,([(⟨1000,50⟩:aF)].set 0 (⟨(at' [(⟨1000,50⟩:aF)] 0).amps,(IntKind.wrap .i64 ((20:Int)+(IntKind.wrap .i64 ((Int.tmod (IntKind.wrap .i64 (Int.tdiv n 9)) 5)*20))))⟩:aF))⟩:Link),(⟨2,3,3,5,10,[(⟨1,(IntKind.wrap .i64 ((30:Int)+(IntKind.wrap .i64 ((Int.tmod n 3)*20))))⟩:aF)]⟩:Link),(⟨3,0,3,5,30,[(⟨3000,60⟩:aF),(⟨6000,(IntKind.wrap .i64 ((20:Int)+(IntKind.wrap .i64 ((Int.tmod (IntKind.wrap .i64 (Int.tdiv n 3)) 3)*30))))⟩:aF)]⟩:Link)],[(⟨(⟨2,(-1)⟩:aM),100,1⟩:aJ),(⟨(⟨1,2⟩:aM),100,0⟩:aJ)]⟩:ai) (⟨[true,(decide ((IntKind.wrap .i64 (((BitVec.ofInt (IntKind.bits .i64) n &&& BitVec.ofInt (IntKind.bits .i64) 1).toNat:Int)))=1)),(decide ((IntKind.wrap .i64 (((BitVec.ofInt (IntKind.bits .i64) n &&& BitVec.ofInt (IntKind.bits .i64) 2).toNat:Int)))=2)),(decide ((IntKind.wrap .i64 (((BitVec.ofInt (IntKind.bits .i64) n &&& BitVec.ofInt (IntKind.bits .i64) 4).toNat:Int)))=4))],(List.replicate 4 (false:Bool)),[(decide ((IntKind.wrap .i64 (((BitVec.ofInt (IntKind.bits .i64) n &&& BitVec.ofInt (IntKind.bits .i64) 8).toNat:Int)))=8)),false,(decide ((IntKind.wrap .i64 (((BitVec.ofInt (IntKind.bits .i64) n &&& BitVec.ofInt (IntKind.bits .i64) 16).toNat:Int)))=16)),false],[(decide ((IntKind.wrap .i64 (((BitVec.ofInt (IntKind.bits .i64) n &&& BitVec.ofInt (IntKind.bits .i64) 32).toNat:Int)))=0)),(decide ((IntKind.wrap .i64 (((BitVec.ofInt (IntKind.bits .i64) n &&& BitVec.ofInt (IntKind.bits .i64) 64).toNat:Int)))=64))],(List.replicate 2 (false:Bool)),(List.replicate 4 (false:Bool)),[false,(decide ((IntKind.wrap .i64 (((BitVec.ofInt (IntKind.bits .i64) n &&& BitVec.ofInt (IntKind.bits .i64) 128).toNat:Int)))=128)),false,false]⟩:State) (IntKind.wrap .i64 ((Int.tmod n 6) - 1))else some default).bind fun r_2=>
 bB ((4≠(0:Int))∧((0:Int)≤(Int.tmod n 4)∧(Int.tmod n 4)<([(⟨0,1,3,400,10,[(⟨1000,400⟩:aF),(⟨10000,100⟩:aF)]⟩:Link),(⟨1,2,3,400,10,([(⟨1000,50⟩:aF)].set 0 (⟨(at' [(⟨1000,50⟩:aF)] 0).amps,(IntKind.wrap .i64 ((20:Int)+(IntKind.wrap .i64 ((Int.tmod (IntKind.wrap .i64 (Int.tdiv n 9)) 5)*20))))⟩:aF))⟩:Link),(⟨2,3,3,5,10,[(⟨1,(IntKind.wrap .i64 ((30:Int)+(IntKind.wrap .i64 ((Int.tmod n 3)*20))))⟩:aF)]⟩:Link),(⟨3,0,3,5,30,[(⟨3000,60⟩:aF),(⟨6000,(IntKind.wrap .i64 ((20:Int)+(IntKind.wrap .i64 ((Int.tmod (IntKind.wrap .i64 (Int.tdiv n 3)) 3)*30))))⟩:aF)]⟩:Link)].length:Int))∧(gB [((!r_1),false)]=true→6≠(0:Int))) (
 bif (bif (!r_1)then true else(!r_2))then
 some (.done (.ret false))
 else
 some (.next (IntKind.wrap .i64 (n+1))))))))
 else
 some (.done (.brk ()))
def vX  :((List Source) × (List Bool) × (List Bool) × Int)→Option (aZ ((List Source) × (List Bool) × (List Bool) × Int) (Ex ((List Source) × (List Bool) × (List Bool)) Bool)):=
 fun zz=>match zz with
 |(p1,s3,s4,i)=>
 bif (decide (i<7))then
 bB ((2≠(0:Int))∧((p1.length+[(⟨(Int.tmod i 2),1,5,0,10⟩:Source)].length)*40≤140737488355328)∧(p1.length+[(⟨(Int.tmod i 2),1,5,0,10⟩:Source)].length≤4611686018427387904)) (
 bB (((s3.length+[true].length)*1≤140737488355328)∧(s3.length+[true].length≤4611686018427387904)) (
 bB (((s4.length+[false].length)*1≤140737488355328)∧(s4.length+[false].length≤4611686018427387904)) (
 some (.next ((p1++[(⟨(Int.tmod i 2),1,5,0,10⟩:Source)]),(s3++[true]),(s4++[false]),(IntKind.wrap .i64 (i+1)))))))
 else
 some (.done (.brk (p1,s3,s4)))
def iw:Option Bool:=
 Option.bind (av fD FUEL (0)) fun o=>match o with
 | .ret v=>some v
 | .brk _=>
 (qp).bind fun r_3=>
 bB ((0:Int)≤0∧0<(r_3.1.sources.length:Int)) (
 bB ((0:Int)≤0∧0<(r_3.1.links.length:Int)) (
 bB ((0:Int)≤1∧1<((r_3.1.links.set 0 (⟨(at' r_3.1.links 0).a,(at' r_3.1.links 0).b,(at' r_3.1.links 0).kind,(at' r_3.1.links 0).most,(at' r_3.1.links 0).aX,[(⟨1,100000⟩:aF)]⟩:Link)).length:Int)) (
 Option.bind (av vX FUEL ((r_3.1.sources.set 0 (⟨(at' r_3.1.sources 0).bus,(at' r_3.1.sources 0).kind,(at' r_3.1.sources 0).power,(at' r_3.1.sources 0).sync,10⟩:Source)),r_3.2.on_,r_3.2.badSource,0)) fun o=>match o with
 | .ret v=>some v
 | .brk (p11,s31,s41)=>
 (dD (⟨r_3.1.buses,p11,((r_3.1.links.set 0 (⟨(at' r_3.1.links 0).a,(at' r_3.1.links 0).b,(at' r_3.1.links 0).kind,(at' r_3.1.links 0).most,(at' r_3.1.links 0).aX,[(⟨1,100000⟩:aF)]⟩:Link)).set 1 (⟨(at' (r_3.1.links.set 0 (⟨(at' r_3.1.links 0).a,(at' r_3.1.links 0).b,(at' r_3.1.links 0).kind,(at' r_3.1.links 0).most,(at' r_3.1.links 0).aX,[(⟨1,100000⟩:aF)]⟩:Link)) 1).a,(at' (r_3.1.links.set 0 (⟨(at' r_3.1.links 0).a,(at' r_3.1.links 0).b,(at' r_3.1.links 0).kind,(at' r_3.1.links 0).most,(at' r_3.1.links 0).aX,[(⟨1,100000⟩:aF)]⟩:Link)) 1).b,(at' (r_3.1.links.set 0 (⟨(at' r_3.1.links 0).a,(at' r_3.1.links 0).b,(at' r_3.1.links 0).kind,(at' r_3.1.links 0).most,(at' r_3.1.links 0).aX,[(⟨1,100000⟩:aF)]⟩:Link)) 1).kind,(at' (r_3.1.links.set 0 (⟨(at' r_3.1.links 0).a,(at' r_3.1.links 0).b,(at' r_3.1.links 0).kind,(at' r_3.1.links 0).most,(at' r_3.1.links 0).aX,[(⟨1,100000⟩:aF)]⟩:Link)) 1).most,(at' (r_3.1.links.set 0 (⟨(at' r_3.1.links 0).a,(at' r_3.1.links 0).b,(at' r_3.1.links 0).kind,(at' r_3.1.links 0).most,(at' r_3.1.links 0).aX,[(⟨1,100000⟩:aF)]⟩:Link)) 1).aX,([]:List aF)⟩:Link)),r_3.1.racks⟩:ai) (⟨r_3.2.closed,r_3.2.locked,r_3.2.badLink,s31,s41,r_3.2.earthed,r_3.2.badBus⟩:State) (at' ((r_3.1.links.set 0 (⟨(at' r_3.1.links 0).a,(at' r_3.1.links 0).b,(at' r_3.1.links 0).kind,(at' r_3.1.links 0).most,(at' r_3.1.links 0).aX,[(⟨1,100000⟩:aF)]⟩:Link)).set 1 (⟨(at' (r_3.1.links.set 0 (⟨(at' r_3.1.links 0).a,(at' r_3.1.links 0).b,(at' r_3.1.links 0).kind,(at' r_3.1.links 0).most,(at' r_3.1.links 0).aX,[(⟨1,100000⟩:aF)]⟩:Link)) 1).a,(at' (r_3.1.links.set 0 (⟨(at' r_3.1.links 0).a,(at' r_3.1.links 0).b,(at' r_3.1.links 0).kind,(at' r_3.1.links 0).most,(at' r_3.1.links 0).aX,[(⟨1,100000⟩:aF)]⟩:Link)) 1).b,(at' (r_3.1.links.set 0 (⟨(at' r_3.1.links 0).a,(at' r_3.1.links 0).b,(at' r_3.1.links 0).kind,(at' r_3.1.links 0).most,(at' r_3.1.links 0).aX,[(⟨1,100000⟩:aF)]⟩:Link)) 1).kind,(at' (r_3.1.links.set 0 (⟨(at' r_3.1.links 0).a,(at' r_3.1.links 0).b,(at' r_3.1.links 0).kind,(at' r_3.1.links 0).most,(at' r_3.1.links 0).aX,[(⟨1,100000⟩:aF)]⟩:Link)) 1).most,(at' (r_3.1.links.set 0 (⟨(at' r_3.1.links 0).a,(at' r_3.1.links 0).b,(at' r_3.1.links 0).kind,(at' r_3.1.links 0).most,(at' r_3.1.links 0).aX,[(⟨1,100000⟩:aF)]⟩:Link)) 1).aX,([]:List aF)⟩:Link)) 0) 1).bind fun r_4=>
 (bif gB [(r_4,true)]then fO else some default).bind fun r_5=>
 bB ((0:Int)≤0∧0<(((r_3.1.links.set 0 (⟨(at' r_3.1.links 0).a,(at' r_3.1.links 0).b,(at' r_3.1.links 0).kind,(at' r_3.1.links 0).most,(at' r_3.1.links 0).aX,[(⟨1,100000⟩:aF)]⟩:Link)).set 1 (⟨(at' (r_3.1.links.set 0 (⟨(at' r_3.1.links 0).a,(at' r_3.1.links 0).b,(at' r_3.1.links 0).kind,(at' r_3.1.links 0).most,(at' r_3.1.links 0).aX,[(⟨1,100000⟩:aF)]⟩:Link)) 1).a,(at' (r_3.1.links.set 0 (⟨(at' r_3.1.links 0).a,(at' r_3.1.links 0).b,(at' r_3.1.links 0).kind,(at' r_3.1.links 0).most,(at' r_3.1.links 0).aX,[(⟨1,100000⟩:aF)]⟩:Link)) 1).b,(at' (r_3.1.links.set 0 (⟨(at' r_3.1.links 0).a,(at' r_3.1.links 0).b,(at' r_3.1.links 0).kind,(at' r_3.1.links 0).most,(at' r_3.1.links 0).aX,[(⟨1,100000⟩:aF)]⟩:Link)) 1).kind,(at' (r_3.1.links.set 0 (⟨(at' r_3.1.links 0).a,(at' r_3.1.links 0).b,(at' r_3.1.links 0).kind,(at' r_3.1.links 0).most,(at' r_3.1.links 0).aX,[(⟨1,100000⟩:aF)]⟩:Link)) 1).most,(at' (r_3.1.links.set 0 (⟨(at' r_3.1.links 0).a,(at' r_3.1.links 0).b,(at' r_3.1.links 0).kind,(at' r_3.1.links 0).most,(at' r_3.1.links 0).aX,[(⟨1,100000⟩:aF)]⟩:Link)) 1).aX,([]:List aF)⟩:Link)).length:Int)) (
 some (bif r_4 then r_5 else false)))))
end Sg
