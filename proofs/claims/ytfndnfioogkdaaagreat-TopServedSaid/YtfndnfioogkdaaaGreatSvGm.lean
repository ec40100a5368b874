import Derived.Test.YtfndnfioogkdaaaGreatSvLd
set_option linter.all false
namespace Sg
open Go
structure Source where
 bus:Int
 kind:Int
 power:Int
 sync:Int
 ohm:Int
instance:Inhabited Source:=⟨⟨default,default,default,default,default⟩⟩
def Source.cell (x:Source):Nat→DV
 |0=>(.int .i64 x.bus)
 |1=>(.int .i64 x.kind)
 |2=>(.int .i64 x.power)
 |3=>(.int .i64 x.sync)
 |4=>(.int .i64 x.ohm)
 |_=> .nilp
structure lW where
 amps:Int
 millis:Int
instance:Inhabited lW:=⟨⟨default,default⟩⟩
def lW.cell (x:lW):Nat→DV
 |0=>(.int .i64 x.amps)
 |1=>(.int .i64 x.millis)
 |_=> .nilp
structure Link where
 a:Int
 b:Int
 kind:Int
 most:Int
 ohm:Int
 trip:(List lW)
instance:Inhabited Link:=⟨⟨default,default,default,default,default,default⟩⟩
def Link.cell (x:Link):Nat→DV
 |0=>(.int .i64 x.a)
 |1=>(.int .i64 x.b)
 |2=>(.int .i64 x.kind)
 |3=>(.int .i64 x.most)
 |4=>(.int .i64 x.ohm)
 |5=>(bN none 2 lW.cell x.trip)
 |_=> .nilp
structure ah where
 e0:Int
 e1:Int
instance:Inhabited ah:=⟨⟨default,default⟩⟩
def ah.cell (x:ah):Nat→DV
 |0=>(.int .i64 x.e0)
 |1=>(.int .i64 x.e1)
 |_=> .nilp
structure aT where
 feeds:ah
 power:Int
 paths:Int
instance:Inhabited aT:=⟨⟨default,default,default⟩⟩
def aT.cell (x:aT):Nat→DV
 |0=>(.int .i64 x.feeds.e0)
 |1=>(.int .i64 x.feeds.e1)
 |2=>(.int .i64 x.power)
 |3=>(.int .i64 x.paths)
 |_=> .nilp
structure au where
 buses:Int
 sources:(List Source)
 links:(List Link)
 racks:(List aT)
instance:Inhabited au:=⟨⟨default,default,default,default⟩⟩
def au.cell (x:au):Nat→DV
 |0=>(.int .i64 x.buses)
 |1=>(bN none 5 Source.cell x.sources)
 |2=>(bN none 6 Link.cell x.links)
 |3=>(bN none 4 aT.cell x.racks)
 |_=> .nilp
structure State where
 closed:(List Bool)
 locked:(List Bool)
 badLink:(List Bool)
 on_:(List Bool)
 badSource:(List Bool)
 earthed:(List Bool)
 badBus:(List Bool)
instance:Inhabited State:=⟨⟨default,default,default,default,default,default,default⟩⟩
def State.cell (x:State):Nat→DV
 |0=>(bN none 1 ai x.closed)
 |1=>(bN none 1 ai x.locked)
 |2=>(bN none 1 ai x.badLink)
 |3=>(bN none 1 ai x.on_)
 |4=>(bN none 1 ai x.badSource)
 |5=>(bN none 1 ai x.earthed)
 |6=>(bN none 1 ai x.badBus)
 |_=> .nilp
structure dN where
 l:(List Bool)
 n:Int
instance:Inhabited dN:=⟨⟨default,default⟩⟩
def dN.cell (x:dN):Nat→DV
 |0=>(bN none 1 ai x.l)
 |1=>(.int .i64 x.n)
 |_=> .nilp
structure Part where
 kind:Int
 index:Int
instance:Inhabited Part:=⟨⟨default,default⟩⟩
def Part.cell (x:Part):Nat→DV
 |0=>(.int .i64 x.kind)
 |1=>(.int .i64 x.index)
 |_=> .nilp
structure aK where
 e0:(List (Int × (List Int)))
 e1:(List (Int × (List Int)))
instance:Inhabited aK:=⟨⟨default,default⟩⟩
def aK.cell (x:aK):Nat→DV
 |0=> .nilp
 |1=> .nilp
 |_=> .nilp
structure Graph where
 parts:(List Part)
 ay:aK
instance:Inhabited Graph:=⟨⟨default,default⟩⟩
def Graph.cell (x:Graph):Nat→DV
 |0=>(bN none 2 Part.cell x.parts)
 |1=> .nilp
 |2=> .nilp
 |_=> .nilp
structure bY where
 to_:Int
 left:Int
instance:Inhabited bY:=⟨⟨default,default⟩⟩
def bY.cell (x:bY):Nat→DV
 |0=>(.int .i64 x.to_)
 |1=>(.int .i64 x.left)
 |_=> .nilp
structure Network where
 ay:(List bY)
 from_:(List (List Int))
instance:Inhabited Network:=⟨⟨default,default⟩⟩
def Network.cell (x:Network):Nat→DV
 |0=>(bN none 2 bY.cell x.ay)
 |1=>(bN none 1 (zX 1 (aF .i64)) x.from_)
 |_=> .nilp
structure bJ where
 l:(List ah)
instance:Inhabited bJ:=⟨⟨default⟩⟩
def bJ.cell (x:bJ):Nat→DV
 |0=>(bN none 2 ah.cell x.l)
 |_=> .nilp
structure bX where
 sources:(List Int)
 links:(List Int)
 racks:(List ah)
instance:Inhabited bX:=⟨⟨default,default,default⟩⟩
def bX.cell (x:bX):Nat→DV
 |0=>(bN none 1 (aF .i64) x.sources)
 |1=>(bN none 1 (aF .i64) x.links)
 |2=>(bN none 2 ah.cell x.racks)
 |_=> .nilp
structure aJ where
 deed:Int
 index:Int
instance:Inhabited aJ:=⟨⟨default,default⟩⟩
def aJ.cell (x:aJ):Nat→DV
 |0=>(.int .i64 x.deed)
 |1=>(.int .i64 x.index)
 |_=> .nilp
structure Task where
 fed:(List Int)
 crew:(List Int)
 allowed:(List aJ)
 goal:(List aJ)
instance:Inhabited Task:=⟨⟨default,default,default,default⟩⟩
def Task.cell (x:Task):Nat→DV
 |0=>(bN none 1 (aF .i64) x.fed)
 |1=>(bN none 1 (aF .i64) x.crew)
 |2=>(bN none 2 aJ.cell x.allowed)
 |3=>(bN none 2 aJ.cell x.goal)
 |_=> .nilp
structure bL where
 head:(List (Int × Int))
instance:Inhabited bL:=⟨⟨default⟩⟩
def bL.cell (x:bL):Nat→DV
 |0=> .nilp
 |_=> .nilp
structure aS where
 buses:(List Int)
 sources:(List Int)
instance:Inhabited aS:=⟨⟨default,default⟩⟩
def aS.cell (x:aS):Nat→DV
 |0=>(bN none 1 (aF .i64) x.buses)
 |1=>(bN none 1 (aF .i64) x.sources)
 |_=> .nilp
structure aY where
 e0:Bool
 e1:Bool
instance:Inhabited aY:=⟨⟨default,default⟩⟩
def aY.cell (x:aY):Nat→DV
 |0=>(.bool x.e0)
 |1=>(.bool x.e1)
 |_=> .nilp
structure Way where
 there:Bool
 ohm:Int
 links:(List Int)
instance:Inhabited Way:=⟨⟨default,default,default⟩⟩
def Way.cell (x:Way):Nat→DV
 |0=>(.bool x.there)
 |1=>(.int .i64 x.ohm)
 |2=>(bN none 1 (aF .i64) x.links)
 |_=> .nilp
structure Short where
 source:Int
 ohm:Int
 amps:Int
 links:(List Int)
instance:Inhabited Short:=⟨⟨default,default,default,default⟩⟩
def Short.cell (x:Short):Nat→DV
 |0=>(.int .i64 x.source)
 |1=>(.int .i64 x.ohm)
 |2=>(.int .i64 x.amps)
 |3=>(bN none 1 (aF .i64) x.links)
 |_=> .nilp
structure Event where
 millis:Int
 link:Int
instance:Inhabited Event:=⟨⟨default,default⟩⟩
def Event.cell (x:Event):Nat→DV
 |0=>(.int .i64 x.millis)
 |1=>(.int .i64 x.link)
 |_=> .nilp
structure Db where
 events:(List Event)
 cleared:Bool
 millis:Int
 energy:Int
 state:State
instance:Inhabited Db:=⟨⟨default,default,default,default,default⟩⟩
def Db.cell (x:Db):Nat→DV
 |0=>(bN none 2 Event.cell x.events)
 |1=>(.bool x.cleared)
 |2=>(.int .i64 x.millis)
 |3=>(.int .i64 x.energy)
 |4=>(bN none 1 ai x.state.closed)
 |5=>(bN none 1 ai x.state.locked)
 |6=>(bN none 1 ai x.state.badLink)
 |7=>(bN none 1 ai x.state.on_)
 |8=>(bN none 1 ai x.state.badSource)
 |9=>(bN none 1 ai x.state.earthed)
 |10=>(bN none 1 ai x.state.badBus)
 |_=> .nilp
structure Machine where
 clearing:Db
 p:au
 bus:Int
 amps:(List Int)
 total:Int
 since:(List (Int × Int))
 now:Int
instance:Inhabited Machine:=⟨⟨default,default,default,default,default,default,default⟩⟩
def Machine.cell (x:Machine):Nat→DV
 |0=>(bN none 2 Event.cell x.clearing.events)
 |1=>(.bool x.clearing.cleared)
 |2=>(.int .i64 x.clearing.millis)
 |3=>(.int .i64 x.clearing.energy)
 |4=>(bN none 1 ai x.clearing.state.closed)
 |5=>(bN none 1 ai x.clearing.state.locked)
 |6=>(bN none 1 ai x.clearing.state.badLink)
 |7=>(bN none 1 ai x.clearing.state.on_)
 |8=>(bN none 1 ai x.clearing.state.badSource)
 |9=>(bN none 1 ai x.clearing.state.earthed)
 |10=>(bN none 1 ai x.clearing.state.badBus)
 |11=>(.int .i64 x.p.buses)
 |12=>(bN none 5 Source.cell x.p.sources)
 |13=>(bN none 6 Link.cell x.p.links)
 |14=>(bN none 4 aT.cell x.p.racks)
 |15=>(.int .i64 x.bus)
 |16=>(bN none 1 (aF .i64) x.amps)
 |17=>(.int .i64 x.total)
 |18=> .nilp
 |19=>(.int .i64 x.now)
 |_=> .nilp
def aS.ev (x:aS):Nat→EV
 |0=> .row 3 1 x.buses.length (aA (aF .i64) x.buses)
 |1=> .row 3 1 x.sources.length (aA (aF .i64) x.sources)
 |_=> .d .nilp
instance:DecidableEq ah:=fun a b=>if h:a.e0=b.e0∧a.e1=b.e1 then .isTrue (match a,b,h with|⟨_,_⟩,⟨_,_⟩,⟨h0,h1⟩=>by cases h0;cases h1;rfl)else .isFalse fun q=>h (by cases q;exact⟨rfl,rfl⟩)
def Ap (x:List Int):Nat→EV
 |0=> .row 3 1 x.length (aA (aF .i64) x)
 |_=> .d .nilp
def Ba (p:au):Option Bool:=
 some (bif (bif (decide (60<(p.sources.length:Int)))then true else(decide (60<(p.links.length:Int))))then true else(decide (60<(p.racks.length:Int))))
def bK (n:Int) (first:Int) (last:Int):Option Bool:=
 some (bif (decide (first≤n))then(decide (n≤last))else false)
def sJ (p:au):Option (Int × (List Source) × (List Link) × (List aT)):=
 some (p.buses,p.sources,p.links,p.racks)
def wZ (p:au):Option (Int × (List Source) × (List Link) × (List aT)):=
 some (p.buses,p.sources,p.links,p.racks)
def wR (p:au):Option (Int × (List Source) × (List Link) × (List aT)):=
 some (p.buses,p.sources,p.links,p.racks)
def lQ (x:Source) (x1:Int) (x11:(List Source)) (x12:(List Link)) (x13:(List aT)):Option Bool:=
 (bK x.bus 0 (IntKind.wrap .i64 (x1 - 1))).bind fun r_=>
 (bif gB [(r_,true)]then bK x.kind 1 3 else some default).bind fun r_1=>
 (bif gB [((bif r_ then r_1 else false),true)]then bK x.power 1 100000 else some default).bind fun r_2=>
 (bif gB [((bif (bif r_ then r_1 else false)then r_2 else false),true)]then bK x.sync 0 8 else some default).bind fun r_3=>
 (bif gB [((bif (bif (bif r_ then r_1 else false)then r_2 else false)then r_3 else false),true)]then bK x.ohm 10 100000 else some default).bind fun r_4=>
 some (bif (bif (bif (bif r_ then r_1 else false)then r_2 else false)then r_3 else false)then r_4 else false)
def rM (x:Source) (x1:Int) (x11:(List Source)) (x12:(List Link)) (x13:(List aT)):Option Bool:=
 (lQ x x1 x11 x12 x13).bind fun r_=>
 some (!r_)
def ku (s_:(List Source)) (f_:Int) (f_1:(List Source)) (f_2:(List Link)) (f_3:(List aT)):Int→Option (cZ Int (Ex Unit Int)):=
 fun t8=>
 bif (decide (t8<(s_.length:Int)))then
 (rM (at' s_ t8.toNat) f_ f_1 f_2 f_3).bind fun r_=>
 bM ((0:Int)≤t8∧t8<(s_.length:Int)) (
 bif r_ then
 some (.done (.ret t8))
 else
 some (.next (IntKind.wrap .i64 (t8+1))))
 else
 some (.done (.brk ()))
def mZ (s_:(List Source)) (f_:Int) (f_1:(List Source)) (f_2:(List Link)) (f_3:(List aT)):Option Int:=
 Option.bind (aV (ku s_ f_ f_1 f_2 f_3) FUEL (0)) fun o=>match o with
 | .ret v=>some v
 | .brk _=>
 some (-1)
def iR (s_:(List Source)) (f_:Int) (f_1:(List Source)) (f_2:(List Link)) (f_3:(List aT)):Option Bool:=
 (mZ s_ f_ f_1 f_2 f_3).bind fun r_=>
 some (decide (0≤r_))
def qF (l:(List Source)) (most:Int) (right:Int) (right1:(List Source)) (right2:(List Link)) (right3:(List aT)):Option Bool:=
 (bif gB [((decide ((l.length:Int)≤most)),true)]then iR l right right1 right2 right3 else some default).bind fun r_=>
 some (bif (decide ((l.length:Int)≤most))then(!r_)else false)
def kF (x:Link):Int→Option (cZ Int (Ex Unit Bool)):=
 fun t50=>
 bif (decide (t50<(x.trip.length:Int)))then
 bM ((0:Int)≤t50∧t50<(x.trip.length:Int)) (
 (bK ((at' x.trip t50.toNat).amps) 1 1000000).bind fun r_5=>
 (bif gB [((!r_5),false)]then bK ((at' x.trip t50.toNat).millis) 1 100000 else some default).bind fun r_6=>
 bM ((gB [((decide (0<t50)),true),((bif (!r_5)then true else(!r_6)),false)]=true→(0:Int)≤(IntKind.wrap .i64 (t50 - 1))∧(IntKind.wrap .i64 (t50 - 1))<(x.trip.length:Int))∧(gB [((decide (((at' x.trip t50.toNat).amps)≤((at' x.trip ((IntKind.wrap .i64 (t50 - 1)).toNat)).amps))),false),((decide (0<t50)),true),((bif (!r_5)then true else(!r_6)),false)]=true→(0:Int)≤(IntKind.wrap .i64 (t50 - 1))∧(IntKind.wrap .i64 (t50 - 1))<(x.trip.length:Int))) (
 bif (bif (bif (!r_5)then true else(!r_6))then true else(bif (decide (0<t50))then(bif (decide (((at' x.trip t50.toNat).amps)≤((at' x.trip ((IntKind.wrap .i64 (t50 - 1)).toNat)).amps)))then true else(decide (((at' x.trip ((IntKind.wrap .i64 (t50 - 1)).toNat)).millis)≤((at' x.trip t50.toNat).millis))))else false))then
 some (.done (.ret false))
 else
 some (.next (IntKind.wrap .i64 (t50+1)))))
 else
 some (.done (.brk ()))
def nI (x:Link) (x1:Int) (x11:(List Source)) (x12:(List Link)) (x13:(List aT)):Option Bool:=
 (bK x.a 0 (IntKind.wrap .i64 (x1 - 1))).bind fun r_=>
 (bif gB [((!r_),false)]then bK x.b 0 (IntKind.wrap .i64 (x1 - 1))else some default).bind fun r_1=>
 (bif gB [((bif (bif (!r_)then true else(!r_1))then true else(decide (x.a=x.b))),false)]then bK x.kind 1 3 else some default).bind fun r_2=>
 (bif gB [((bif (bif (bif (!r_)then true else(!r_1))then true else(decide (x.a=x.b)))then true else(!r_2)),false)]then bK x.most 1 100000 else some default).bind fun r_3=>
 (bif gB [((bif (bif (bif (bif (!r_)then true else(!r_1))then true else(decide (x.a=x.b)))then true else(!r_2))then true else(!r_3)),false)]then bK x.ohm 10 100000 else some default).bind fun r_4=>
 bif (bif (bif (bif (bif (bif (!r_)then true else(!r_1))then true else(decide (x.a=x.b)))then true else(!r_2))then true else(!r_3))then true else(!r_4))then
 some false
 else
 Option.bind (aV (kF x) FUEL (0)) fun o=>match o with
 | .ret v=>some v
 | .brk _=>
 some (bif (decide ((x.trip.length:Int)≤6))then(bif (decide ((x.trip.length:Int)=0))then true else(decide (x.kind=3)))else false)
def nV (x:Link) (x1:Int) (x11:(List Source)) (x12:(List Link)) (x13:(List aT)):Option Bool:=
 (nI x x1 x11 x12 x13).bind fun r_=>
 some (!r_)
def jo (s_:(List Link)) (f_:Int) (f_1:(List Source)) (f_2:(List Link)) (f_3:(List aT)):Int→Option (cZ Int (Ex Unit Int)):=
 fun t8=>
 bif (decide (t8<(s_.length:Int)))then
 (nV (at' s_ t8.toNat) f_ f_1 f_2 f_3).bind fun r_=>
 bM ((0:Int)≤t8∧t8<(s_.length:Int)) (
 bif r_ then
 some (.done (.ret t8))
 else
 some (.next (IntKind.wrap .i64 (t8+1))))
 else
 some (.done (.brk ()))
def kD (s_:(List Link)) (f_:Int) (f_1:(List Source)) (f_2:(List Link)) (f_3:(List aT)):Option Int:=
 Option.bind (aV (jo s_ f_ f_1 f_2 f_3) FUEL (0)) fun o=>match o with
 | .ret v=>some v
 | .brk _=>
 some (-1)
def gU (s_:(List Link)) (f_:Int) (f_1:(List Source)) (f_2:(List Link)) (f_3:(List aT)):Option Bool:=
 (kD s_ f_ f_1 f_2 f_3).bind fun r_=>
 some (decide (0≤r_))
def nR (l:(List Link)) (most:Int) (right:Int) (right1:(List Source)) (right2:(List Link)) (right3:(List aT)):Option Bool:=
 (bif gB [((decide ((l.length:Int)≤most)),true)]then gU l right right1 right2 right3 else some default).bind fun r_=>
 some (bif (decide ((l.length:Int)≤most))then(!r_)else false)
def o8 (x:aT):Option Int:=
 bif (decide (x.feeds.e1=(-1)))then
 some 1
 else
 some 2
def nW (x:aT) (x1:Int) (x11:(List Source)) (x12:(List Link)) (x13:(List aT)):Option Bool:=
 (bK x.feeds.e0 0 (IntKind.wrap .i64 (x1 - 1))).bind fun r_=>
 (bif gB [(r_,true)]then bK x.feeds.e1 (-1) (IntKind.wrap .i64 (x1 - 1))else some default).bind fun r_1=>
 (bif gB [((bif (bif r_ then r_1 else false)then(!decide (x.feeds.e0=x.feeds.e1))else false),true)]then bK x.power 1 100000 else some default).bind fun r_2=>
 (bif gB [((bif (bif (bif r_ then r_1 else false)then(!decide (x.feeds.e0=x.feeds.e1))else false)then r_2 else false),true)]then o8 x else some default).bind fun r_3=>
 (bif gB [((bif (bif (bif r_ then r_1 else false)then(!decide (x.feeds.e0=x.feeds.e1))else false)then r_2 else false),true)]then bK x.paths 0 r_3 else some default).bind fun r_4=>
 some (bif (bif (bif (bif r_ then r_1 else false)then(!decide (x.feeds.e0=x.feeds.e1))else false)then r_2 else false)then r_4 else false)
def nU (x:aT) (x1:Int) (x11:(List Source)) (x12:(List Link)) (x13:(List aT)):Option Bool:=
 (nW x x1 x11 x12 x13).bind fun r_=>
 some (!r_)
def jw (s_:(List aT)) (f_:Int) (f_1:(List Source)) (f_2:(List Link)) (f_3:(List aT)):Int→Option (cZ Int (Ex Unit Int)):=
 fun t8=>
 bif (decide (t8<(s_.length:Int)))then
 (nU (⟨((at' s_ t8.toNat).feeds),(at' s_ t8.toNat).power,(at' s_ t8.toNat).paths⟩:aT) f_ f_1 f_2 f_3).bind fun r_=>
 bM ((0:Int)≤t8∧t8<(s_.length:Int)) (
 bif r_ then
 some (.done (.ret t8))
 else
 some (.next (IntKind.wrap .i64 (t8+1))))
 else
 some (.done (.brk ()))
def kC (s_:(List aT)) (f_:Int) (f_1:(List Source)) (f_2:(List Link)) (f_3:(List aT)):Option Int:=
 Option.bind (aV (jw s_ f_ f_1 f_2 f_3) FUEL (0)) fun o=>match o with
 | .ret v=>some v
 | .brk _=>
 some (-1)
def gW (s_:(List aT)) (f_:Int) (f_1:(List Source)) (f_2:(List Link)) (f_3:(List aT)):Option Bool:=
 (kC s_ f_ f_1 f_2 f_3).bind fun r_=>
 some (decide (0≤r_))
def nL (l:(List aT)) (most:Int) (right:Int) (right1:(List Source)) (right2:(List Link)) (right3:(List aT)):Option Bool:=
 (bif gB [((decide ((l.length:Int)≤most)),true)]then gW l right right1 right2 right3 else some default).bind fun r_=>
 some (bif (decide ((l.length:Int)≤most))then(!r_)else false)
def mq (p:au):Option Int:=
 (bK p.buses 1 24).bind fun r_=>
 bif (!r_)then
 some 10
 else
 (sJ p).bind fun r_1=>
 (qF p.sources 8 r_1.1 r_1.2.1 r_1.2.2.1 r_1.2.2.2).bind fun r_2=>
 bif (!r_2)then
 some 11
 else
 (wZ p).bind fun r_3=>
 (nR p.links 40 r_3.1 r_3.2.1 r_3.2.2.1 r_3.2.2.2).bind fun r_4=>
 bif (!r_4)then
 some 12
 else
 (wR p).bind fun r_5=>
 (nL p.racks 24 r_5.1 r_5.2.1 r_5.2.2.1 r_5.2.2.2).bind fun r_6=>
 bif (!r_6)then
 some 13
 else
 some 0
def iV (p:au) (s_:State):Int→Option (cZ Int (Ex Unit Int)):=
 fun t55=>
 bif (decide (t55<([(⟨s_.closed,(p.links.length:Int)⟩:dN),(⟨s_.locked,(p.links.length:Int)⟩:dN),(⟨s_.badLink,(p.links.length:Int)⟩:dN),(⟨s_.on_,(p.sources.length:Int)⟩:dN),(⟨s_.badSource,(p.sources.length:Int)⟩:dN),(⟨s_.earthed,p.buses⟩:dN),(⟨s_.badBus,p.buses⟩:dN)].length:Int)))then
 bM ((0:Int)≤t55∧t55<([(⟨s_.closed,(p.links.length:Int)⟩:dN),(⟨s_.locked,(p.links.length:Int)⟩:dN),(⟨s_.badLink,(p.links.length:Int)⟩:dN),(⟨s_.on_,(p.sources.length:Int)⟩:dN),(⟨s_.badSource,(p.sources.length:Int)⟩:dN),(⟨s_.earthed,p.buses⟩:dN),(⟨s_.badBus,p.buses⟩:dN)].length:Int)) (
 bif (!decide ((((at' [(⟨s_.closed,(p.links.length:Int)⟩:dN),(⟨s_.locked,(p.links.length:Int)⟩:dN),(⟨s_.badLink,(p.links.length:Int)⟩:dN),(⟨s_.on_,(p.sources.length:Int)⟩:dN),(⟨s_.badSource,(p.sources.length:Int)⟩:dN),(⟨s_.earthed,p.buses⟩:dN),(⟨s_.badBus,p.buses⟩:dN)] t55.toNat).l).length:Int)=((at' [(⟨s_.closed,(p.links.length:Int)⟩:dN),(⟨s_.locked,(p.links.length:Int)⟩:dN),(⟨s_.badLink,(p.links.length:Int)⟩:dN),(⟨s_.on_,(p.sources.length:Int)⟩:dN),(⟨s_.badSource,(p.sources.length:Int)⟩:dN),(⟨s_.earthed,p.buses⟩:dN),(⟨s_.badBus,p.buses⟩:dN)] t55.toNat).n)))then
 some (.done (.ret 9))
 else
 some (.next (IntKind.wrap .i64 (t55+1))))
 else
 some (.done (.brk ()))
def iW (p:au) (s_:State):Int→Option (cZ Int (Ex Unit Int)):=
 fun t69=>
 bif (decide (t69<(p.links.length:Int)))then
 bM ((0:Int)≤t69∧t69<(p.links.length:Int)) (
 bM ((gB [((decide (((at' p.links t69.toNat).kind)=1)),true)]=true→(0:Int)≤t69∧t69<(s_.closed.length:Int))∧(gB [((!(at' s_.closed t69.toNat)),false),((decide (((at' p.links t69.toNat).kind)=1)),true)]=true→(0:Int)≤t69∧t69<(s_.locked.length:Int))) (
 bif (bif (decide (((at' p.links t69.toNat).kind)=1))then(bif (!(at' s_.closed t69.toNat))then true else(at' s_.locked t69.toNat))else false)then
 some (.done (.ret 9))
 else
 some (.next (IntKind.wrap .i64 (t69+1)))))
 else
 some (.done (.brk ()))
def dI (p:au) (s_:State):Option Int:=
 (mq p).bind fun r_=>
 bif (!decide (r_=0))then
 some r_
 else
 Option.bind (aV (iV p s_) FUEL (0)) fun o=>match o with
 | .ret v=>some v
 | .brk _=>
 Option.bind (aV (iW p s_) FUEL (0)) fun o=>match o with
 | .ret v=>some v
 | .brk _=>
 some 0
def kK (p:au) (s_:State) (nG:Int):Option Int:=
 (dI p s_).bind fun r_=>
 bif (!decide (r_=0))then
 some r_
 else
 bif (bif (decide (nG<0))then true else(decide ((p.racks.length:Int)≤nG)))then
 some 13
 else
 some 0
def jH (p:au) (t24:Int):((List Part) × Int)→Option (cZ ((List Part) × Int) (Ex (List Part) (cZ ((List Part) × Int) (Ex (List Part) ((List Part) × Int))))):=
 fun zz=>match zz with
 |(out2,t30)=>
 bif (decide (t30<(at' [p.buses,(p.sources.length:Int),(p.links.length:Int)] t24.toNat)))then
 bM (((out2.length+[(⟨(IntKind.wrap .i64 (t24+1)),t30⟩:Part)].length)*16≤140737488355328)∧(out2.length+[(⟨(IntKind.wrap .i64 (t24+1)),t30⟩:Part)].length≤4611686018427387904)) (
 some (.next ((out2++[(⟨(IntKind.wrap .i64 (t24+1)),t30⟩:Part)]),(IntKind.wrap .i64 (t30+1)))))
 else
 some (.done (.brk out2))
def iL (p:au):((List Part) × Int)→Option (cZ ((List Part) × Int) (Ex (List Part) ((List Part) × Int))):=
 fun zz=>match zz with
 |(out,t24)=>
 bif (decide (t24<([p.buses,(p.sources.length:Int),(p.links.length:Int)].length:Int)))then
 bM ((0:Int)≤t24∧t24<([p.buses,(p.sources.length:Int),(p.links.length:Int)].length:Int)) (
 Option.bind (aV (jH p t24) FUEL (out,0)) fun o=>match o with
 | .ret v=>some v
 | .brk out3=>
 some (.next (out3,(IntKind.wrap .i64 (t24+1)))))
 else
 some (.done (.brk out))
def o9 (p:au):Option ((List Part) × Int):=
 (mq p).bind fun r_=>
 bif (!decide (r_=0))then
 some (([]:List Part),r_)
 else
 Option.bind (aV (iL p) FUEL (([]:List Part),0)) fun o=>match o with
 | .ret v=>some v
 | .brk out1=>
 some (out1,0)
def dY (a:Int) (b:Int) (graph:Graph):Option Graph:=
 bM ((((aN a graph.ay.e0).length+[b].length)*8≤140737488355328)∧((aN a graph.ay.e0).length+[b].length≤4611686018427387904)) (
 some (⟨graph.parts,(⟨(gV a ((aN a graph.ay.e0)++[b]) graph.ay.e0),graph.ay.e1⟩:aK)⟩:Graph))
def kX (s_:(List Part)) (v_:Part):Int→Option (cZ Int (Ex Unit Int)):=
 fun t8=>
 bif (decide (t8<(s_.length:Int)))then
 bM ((0:Int)≤t8∧t8<(s_.length:Int)) (
 bif ((decide (v_.kind=((at' s_ t8.toNat).kind))) && ((decide (v_.index=((at' s_ t8.toNat).index))) && true))then
 some (.done (.ret t8))
 else
 some (.next (IntKind.wrap .i64 (t8+1))))
 else
 some (.done (.brk ()))
def fV (s_:(List Part)) (v_:Part):Option Int:=
 Option.bind (aV (kX s_ v_) FUEL (0)) fun o=>match o with
 | .ret v=>some v
 | .brk _=>
 some (-1)
def bZ (kz:Int) (i:Int) (graph:Graph):Option Int:=
 (fV graph.parts (⟨kz,i⟩:Part)).bind fun r_=>
 some r_
def gG (r_:((List Part) × Int)):((List (Int × (List Int))) × Int)→Option (cZ ((List (Int × (List Int))) × Int) (Ex (List (Int × (List Int))) Graph)):=
 fun zz=>match zz with
 |(g01,t41)=>
 bif (decide (t41<(r_.1.length:Int)))then
 (dY (IntKind.wrap .i64 ((2:Int)*t41)) (IntKind.wrap .i64 ((IntKind.wrap .i64 ((2:Int)*t41))+1)) (⟨r_.1,(⟨g01,([]:(List (Int × (List Int))))⟩:aK)⟩:Graph)).bind fun r_1=>
 some (.next (r_1.ay.e0,(IntKind.wrap .i64 (t41+1))))
 else
 some (.done (.brk g01))
def gH (p:au) (s_:State) (r_:((List Part) × Int)):((List (Int × (List Int))) × Int)→Option (cZ ((List (Int × (List Int))) × Int) (Ex (List (Int × (List Int))) Graph)):=
 fun zz=>match zz with
 |(g012,t55)=>
 bif (decide (t55<(p.sources.length:Int)))then
 bM ((0:Int)≤t55∧t55<(p.sources.length:Int)) (
 bM (((0:Int)≤t55∧t55<(s_.on_.length:Int))∧(gB [((at' s_.on_ t55.toNat),true)]=true→(0:Int)≤t55∧t55<(s_.badSource.length:Int))∧(gB [((bif (at' s_.on_ t55.toNat)then(!(at' s_.badSource t55.toNat))else false),true)]=true→(0:Int)≤(at' p.sources t55.toNat).bus∧(at' p.sources t55.toNat).bus<(s_.badBus.length:Int))) (
 bif (bif (bif (at' s_.on_ t55.toNat)then(!(at' s_.badSource t55.toNat))else false)then(!(at' s_.badBus (((at' p.sources t55.toNat).bus).toNat)))else false)then
 (bZ 2 t55 (⟨r_.1,(⟨g012,([]:(List (Int × (List Int))))⟩:aK)⟩:Graph)).bind fun r_2=>
 (dY (-1) (IntKind.wrap .i64 ((2:Int)*r_2)) (⟨r_.1,(⟨g012,([]:(List (Int × (List Int))))⟩:aK)⟩:Graph)).bind fun r_3=>
 (bZ 1 ((at' p.sources t55.toNat).bus) (⟨r_.1,(⟨r_3.ay.e0,([]:(List (Int × (List Int))))⟩:aK)⟩:Graph)).bind fun r_4=>
 (dY (IntKind.wrap .i64 ((IntKind.wrap .i64 ((2:Int)*r_2))+1)) (IntKind.wrap .i64 ((2:Int)*r_4)) (⟨r_.1,(⟨r_3.ay.e0,([]:(List (Int × (List Int))))⟩:aK)⟩:Graph)).bind fun r_5=>
 some (.next (r_5.ay.e0,(IntKind.wrap .i64 (t55+1))))
 else
 some (.next (g012,(IntKind.wrap .i64 (t55+1))))))
 else
 some (.done (.brk g012))
def dU (p:au) (r_:((List Part) × Int)) (t103:Int) (r_6:Int):((List (Int × (List Int))) × Int)→Option (cZ ((List (Int × (List Int))) × Int) (Ex (List (Int × (List Int))) (cZ ((List (Int × (List Int))) × Int) (Ex (List (Int × (List Int))) Graph)))):=
 fun zz=>match zz with
 |(g016,t145)=>
 bif (decide (t145<2))then
 bM ((0:Int)≤t145∧t145<((2:Nat):Int)) (
 (bZ 1 (at' [(at' p.links t103.toNat).a,(at' p.links t103.toNat).b] t145.toNat) (⟨r_.1,(⟨g016,([]:(List (Int × (List Int))))⟩:aK)⟩:Graph)).bind fun r_7=>
 (dY (IntKind.wrap .i64 ((IntKind.wrap .i64 ((2:Int)*r_7))+1)) (IntKind.wrap .i64 ((2:Int)*r_6)) (⟨r_.1,(⟨g016,([]:(List (Int × (List Int))))⟩:aK)⟩:Graph)).bind fun r_8=>
 (bZ 1 (at' [(at' p.links t103.toNat).a,(at' p.links t103.toNat).b] t145.toNat) (⟨r_.1,(⟨r_8.ay.e0,([]:(List (Int × (List Int))))⟩:aK)⟩:Graph)).bind fun r_9=>
 (dY (IntKind.wrap .i64 ((IntKind.wrap .i64 ((2:Int)*r_6))+1)) (IntKind.wrap .i64 ((2:Int)*r_9)) (⟨r_.1,(⟨r_8.ay.e0,([]:(List (Int × (List Int))))⟩:aK)⟩:Graph)).bind fun r_10=>
 some (.next (r_10.ay.e0,(IntKind.wrap .i64 (t145+1)))))
 else
 some (.done (.brk g016))
def gF (p:au) (s_:State) (r_:((List Part) × Int)):((List (Int × (List Int))) × Int)→Option (cZ ((List (Int × (List Int))) × Int) (Ex (List (Int × (List Int))) Graph)):=
 fun zz=>match zz with
 |(g014,t103)=>
 bif (decide (t103<(p.links.length:Int)))then
 bM ((0:Int)≤t103∧t103<(p.links.length:Int)) (
 bM (((0:Int)≤t103∧t103<(s_.closed.length:Int))∧(gB [((!(at' s_.closed t103.toNat)),false)]=true→(0:Int)≤t103∧t103<(s_.badLink.length:Int))∧(gB [((bif (!(at' s_.closed t103.toNat))then true else(at' s_.badLink t103.toNat)),false)]=true→(0:Int)≤(at' p.links t103.toNat).a∧(at' p.links t103.toNat).a<(s_.badBus.length:Int))∧(gB [((bif (bif (!(at' s_.closed t103.toNat))then true else(at' s_.badLink t103.toNat))then true else(at' s_.badBus (((at' p.links t103.toNat).a).toNat))),false)]=true→(0:Int)≤(at' p.links t103.toNat).b∧(at' p.links t103.toNat).b<(s_.badBus.length:Int))) (
 bif (bif (bif (bif (!(at' s_.closed t103.toNat))then true else(at' s_.badLink t103.toNat))then true else(at' s_.badBus (((at' p.links t103.toNat).a).toNat)))then true else(at' s_.badBus (((at' p.links t103.toNat).b).toNat)))then
 some (.next (g014,(IntKind.wrap .i64 (t103+1))))
 else
 (bZ 3 t103 (⟨r_.1,(⟨g014,([]:(List (Int × (List Int))))⟩:aK)⟩:Graph)).bind fun r_6=>
 Option.bind (aV (dU p r_ t103 r_6) FUEL (g014,0)) fun o=>match o with
 | .ret v=>some v
 | .brk g017=>
 some (.next (g017,(IntKind.wrap .i64 (t103+1))))))
 else
 some (.done (.brk g014))
def gD (p:au) (s_:State) (nG:Int) (r_:((List Part) × Int)):((List (Int × (List Int))) × Int)→Option (cZ ((List (Int × (List Int))) × Int) (Ex (List (Int × (List Int))) Graph)):=
 fun zz=>match zz with
 |(g018,t174)=>
 bif (decide (t174<2))then
 bM ((0:Int)≤t174∧t174<((2:Nat):Int)) (
 bM (gB [((decide (0≤(at' [((at' p.racks nG.toNat).feeds).e0,((at' p.racks nG.toNat).feeds).e1] t174.toNat))),true)]=true→(0:Int)≤(at' [((at' p.racks nG.toNat).feeds).e0,((at' p.racks nG.toNat).feeds).e1] t174.toNat)∧(at' [((at' p.racks nG.toNat).feeds).e0,((at' p.racks nG.toNat).feeds).e1] t174.toNat)<(s_.badBus.length:Int)) (
 bif (bif (decide (0≤(at' [((at' p.racks nG.toNat).feeds).e0,((at' p.racks nG.toNat).feeds).e1] t174.toNat)))then(!(at' s_.badBus ((at' [((at' p.racks nG.toNat).feeds).e0,((at' p.racks nG.toNat).feeds).e1] t174.toNat).toNat)))else false)then
 (bZ 1 (at' [((at' p.racks nG.toNat).feeds).e0,((at' p.racks nG.toNat).feeds).e1] t174.toNat) (⟨r_.1,(⟨g018,([]:(List (Int × (List Int))))⟩:aK)⟩:Graph)).bind fun r_11=>
 (dY (IntKind.wrap .i64 ((IntKind.wrap .i64 ((2:Int)*r_11))+1)) (-2) (⟨r_.1,(⟨g018,([]:(List (Int × (List Int))))⟩:aK)⟩:Graph)).bind fun r_12=>
 some (.next (r_12.ay.e0,(IntKind.wrap .i64 (t174+1))))
 else
 some (.next (g018,(IntKind.wrap .i64 (t174+1))))))
 else
 some (.done (.brk g018))
def jP (p:au) (s_:State) (nG:Int):Option Graph:=
 (o9 p).bind fun r_=>
 Option.bind (aV (gG r_) FUEL (([]:(List (Int × (List Int)))),0)) fun o=>match o with
 | .ret v=>some v
 | .brk g011=>
 Option.bind (aV (gH p s_ r_) FUEL (g011,0)) fun o=>match o with
 | .ret v=>some v
 | .brk g013=>
 Option.bind (aV (gF p s_ r_) FUEL (g013,0)) fun o=>match o with
 | .ret v=>some v
 | .brk g015=>
 bM ((0:Int)≤nG∧nG<(p.racks.length:Int)) (
 Option.bind (aV (gD p s_ nG r_) FUEL (g015,0)) fun o=>match o with
 | .ret v=>some v
 | .brk g019=>
 some (⟨r_.1,(⟨g019,([]:(List (Int × (List Int))))⟩:aK)⟩:Graph))
def om (s_:(List Int)) (s_nn:Bool):Option (List Int):=
 bif (!s_nn)then
 some ([]:List Int)
 else
 bM (((([]:List Int).length+s_.length)*8≤140737488355328)∧(([]:List Int).length+s_.length≤4611686018427387904)) (
 some (([]:List Int)++s_))
def jA (s:(List Int)):Option (List Int):=om s true
def kR (s_:(List Int)) (v_:Int):Int→Option (cZ Int (Ex Unit Int)):=
 fun t8=>
 bif (decide (t8<(s_.length:Int)))then
 bM ((0:Int)≤t8∧t8<(s_.length:Int)) (
 bif (decide (v_=(at' s_ t8.toNat)))then
 some (.done (.ret t8))
 else
 some (.next (IntKind.wrap .i64 (t8+1))))
 else
 some (.done (.brk ()))
def fK (s_:(List Int)) (v_:Int):Option Int:=
 Option.bind (aV (kR s_ v_) FUEL (0)) fun o=>match o with
 | .ret v=>some v
 | .brk _=>
 some (-1)
def jQ (s:List Int) (i j:Int):Option (List Int):=Q9 s i j
def fB (a:Int) (b:Int) (from_:Int) (graph:Graph):Option Graph:=
 bif (decide (from_=0))then
 (fK (aN a graph.ay.e0) b).bind fun r_=>
 (jQ (aN a graph.ay.e0) r_ (IntKind.wrap .i64 (r_+1))).bind fun r_1=>
 bM ((((aN a graph.ay.e1).length+[b].length)*8≤140737488355328)∧((aN a graph.ay.e1).length+[b].length≤4611686018427387904)) (
 some (⟨graph.parts,(⟨(gV a r_1 graph.ay.e0),(gV a ((aN a graph.ay.e1)++[b]) graph.ay.e1)⟩:aK)⟩:Graph))
 else
 bM (from_=1) (
 (fK (aN a graph.ay.e1) b).bind fun r_2=>
 (jQ (aN a graph.ay.e1) r_2 (IntKind.wrap .i64 (r_2+1))).bind fun r_3=>
 bM ((((aN a graph.ay.e0).length+[b].length)*8≤140737488355328)∧((aN a graph.ay.e0).length+[b].length≤4611686018427387904)) (
 some (⟨graph.parts,(⟨(gV a ((aN a graph.ay.e0)++[b]) graph.ay.e0),(gV a r_3 graph.ay.e1)⟩:aK)⟩:Graph)))
def eD (s_:(List Int)) (v_:Int):Option Bool:=
 (fK s_ v_).bind fun r_=>
 some (decide (0≤r_))
def fM (rec:Int→(List (Int × Bool))→Graph→Option (Bool × (List (Int × Bool)) × Graph)) (at_:Int) (graph:Graph) (r_:(List Int)):((List (Int × Bool)) × (List (Int × (List Int))) × (List (Int × (List Int))) × Int)→Option (cZ ((List (Int × Bool)) × (List (Int × (List Int))) × (List (Int × (List Int))) × Int) (Ex ((List (Int × Bool)) × (List (Int × (List Int))) × (List (Int × (List Int)))) (Bool × (List (Int × Bool)) × Graph))):=
 fun zz=>match zz with
 |(o0,o01,o02,t23)=>
 bif (decide (t23<(r_.length:Int)))then
 bM ((0:Int)≤t23∧t23<(r_.length:Int)) (
 bif (!((bR bA (at' r_ t23.toNat) o0).getD false))then
 (rec (at' r_ t23.toNat) o0 (⟨graph.parts,(⟨o01,o02⟩:aK)⟩:Graph)).bind fun r_1=>
 bif r_1.1 then
 (fB at_ (at' r_ t23.toNat) 0 (⟨graph.parts,r_1.2.2.ay⟩:Graph)).bind fun r_2=>
 some (.done (.ret (true,r_1.2.1,(⟨graph.parts,r_2.ay⟩:Graph))))
 else
 some (.next (r_1.2.1,r_1.2.2.ay.e0,r_1.2.2.ay.e1,(IntKind.wrap .i64 (t23+1))))
 else
 some (.next (o0,o01,o02,(IntKind.wrap .i64 (t23+1)))))
 else
 some (.done (.brk (o0,o01,o02)))
def fP (rec:Int→(List (Int × Bool))→Graph→Option (Bool × (List (Int × Bool)) × Graph)) (at_:Int) (graph:Graph) (o021:(List (Int × (List Int)))):Int × List Int→((List (Int × Bool)) × (List (Int × (List Int))))→Option (cZ ((List (Int × Bool)) × (List (Int × (List Int)))) (Ex Empty (Bool × (List (Int × Bool)) × Graph))):=
 fun x=>fun zz=>match zz with
 |(o04,o012)=>
 bif (bif (!((bR bA x.1 o04).getD false))then(!decide (x.1=(-1)))else false)then
 (eD x.2 at_).bind fun r_3=>
 bif r_3 then
 (rec x.1 o04 (⟨graph.parts,(⟨o012,o021⟩:aK)⟩:Graph)).bind fun r_4=>
 bif r_4.1 then
 (fB x.1 at_ 1 (⟨graph.parts,r_4.2.2.ay⟩:Graph)).bind fun r_5=>
 some (.done (.ret (true,r_4.2.1,(⟨graph.parts,r_5.ay⟩:Graph))))
 else
 bM (r_4.2.2.ay.e1=o021) (
 some (.next (r_4.2.1,r_4.2.2.ay.e0)))
 else
 some (.next (o04,o012))
 else
 some (.next (o04,o012))
def bW (at_:Int):Int × List Int→Bool:=
 fun x=> !(decide (x.1= -1)) && nfl (eD x.2 at_)
def fw (rec:Int→(List (Int × Bool))→Graph→Option (Bool × (List (Int × Bool)) × Graph)) (at_:Int) (o_:(List (Int × Bool))) (graph:Graph):Option (Bool × (List (Int × Bool)) × Graph):=
 bif (decide (at_=(-2)))then
 some (true,o_,graph)
 else
 (jA (aN at_ graph.ay.e0)).bind fun r_=>
 Option.bind (aV (fM rec at_ graph r_) FUEL ((dL bA at_ true o_),graph.ay.e0,graph.ay.e1,0)) fun o=>match o with
 | .ret v=>some v
 | .brk (o03,o011,o021)=>
 Option.bind (goG o021 (bW at_) (fP rec at_ graph o021) (o03,o011)) fun o=>match o with
 | .ret v=>some v
 | .brk (o05,o013)=>
 some (false,o05,(⟨graph.parts,(⟨o013,o021⟩:aK)⟩:Graph))
def cu:Nat→Int→(List (Int × Bool))→Graph→Option (Bool × (List (Int × Bool)) × Graph)
 |0,_,_,_=>none
 |n+1,at_,o_,graph=>fw (cu n) at_ o_ graph
def dV (graph:Graph):Option (Bool × Graph):=
 (cu FUEL (-1) ([]:(List (Int × Bool))) graph).bind fun r_=>
 some (r_.1,(⟨graph.parts,r_.2.2.ay⟩:Graph))
def iT (graph:Graph):(Int × (List Part))→Option (cZ (Int × (List Part)) (Ex (List Part) (cZ ((List (List Part)) × Int) (Ex (List (List Part)) (List (List Part)))))):=
 fun zz=>match zz with
 |(at_,way)=>
 bif (!decide (at_=(-2)))then
 bM ((2≠(0:Int))∧((0:Int)≤(IntKind.wrap .i64 (Int.tdiv at_ 2))∧(IntKind.wrap .i64 (Int.tdiv at_ 2))<(graph.parts.length:Int))∧((way.length+[(at' graph.parts ((IntKind.wrap .i64 (Int.tdiv at_ 2)).toNat))].length)*16≤140737488355328)∧(way.length+[(at' graph.parts ((IntKind.wrap .i64 (Int.tdiv at_ 2)).toNat))].length≤4611686018427387904)) (
 bM ((0:Int)≤0∧0<(((bR bA (IntKind.wrap .i64 (at_+1)) graph.ay.e1).getD ([]:List Int)).length:Int)) (
 some (.next ((at' ((bR bA (IntKind.wrap .i64 (at_+1)) graph.ay.e1).getD ([]:List Int)) 0),(way++[(at' graph.parts ((IntKind.wrap .i64 (Int.tdiv at_ 2)).toNat))])))))
 else
 some (.done (.brk way))
def kE (graph:Graph):((List (List Part)) × Int)→Option (cZ ((List (List Part)) × Int) (Ex (List (List Part)) (List (List Part)))):=
 fun zz=>match zz with
 |(out,t14)=>
 bif (decide (t14<(((bR bA (-1) graph.ay.e1).getD ([]:List Int)).length:Int)))then
 bM ((0:Int)≤t14∧t14<(((bR bA (-1) graph.ay.e1).getD ([]:List Int)).length:Int)) (
 Option.bind (aV (iT graph) FUEL ((at' ((bR bA (-1) graph.ay.e1).getD ([]:List Int)) t14.toNat),([]:List Part))) fun o=>match o with
 | .ret v=>some v
 | .brk way1=>
 bM (((out.length+[way1].length)*24≤140737488355328)∧(out.length+[way1].length≤4611686018427387904)) (
 some (.next ((out++[way1]),(IntKind.wrap .i64 (t14+1))))))
 else
 some (.done (.brk out))
def gM (graph:Graph):Option (List (List Part)):=
 Option.bind (aV (kE graph) FUEL (([]:List (List Part)),0)) fun o=>match o with
 | .ret v=>some v
 | .brk out1=>
 some out1
def gy (r_1:Graph):((List (Int × (List Int))) × (List (Int × (List Int))) × Int)→Option (cZ ((List (Int × (List Int))) × (List (Int × (List Int))) × Int) (Ex ((List (Int × (List Int))) × (List (Int × (List Int)))) ((List (List Part)) × Int))):=
 fun zz=>match zz with
 |(g1,g2,t21)=>
 bif (decide (t21<2))then
 (dV (⟨r_1.parts,(⟨g1,g2⟩:aK)⟩:Graph)).bind fun r_2=>
 bif (!r_2.1)then
 some (.done (.brk (r_2.2.ay.e0,r_2.2.ay.e1)))
 else
 some (.next (r_2.2.ay.e0,r_2.2.ay.e1,(IntKind.wrap .i64 (t21+1))))
 else
 some (.done (.brk (g1,g2)))
def wJ (p:au) (s_:State) (nG:Int):Option ((List (List Part)) × Int):=
 (kK p s_ nG).bind fun r_=>
 bif (!decide (r_=0))then
 some (([]:List (List Part)),r_)
 else
 (jP p s_ nG).bind fun r_1=>
 Option.bind (aV (gy r_1) FUEL (r_1.ay.e0,r_1.ay.e1,0)) fun o=>match o with
 | .ret v=>some v
 | .brk (g11,g21)=>
 (gM (⟨r_1.parts,(⟨g11,g21⟩:aK)⟩:Graph)).bind fun r_3=>
 some (r_3,0)
def jF (p:au) (s_:State) (nG:Int):Option (Int × Int):=
 (wJ p s_ nG).bind fun r_=>
 some ((r_.1.length:Int),r_.2)
def qG (p:au) (s_:State) (kz:Int):Option Bool:=
 bM (((0:Int)≤kz∧kz<(s_.on_.length:Int))∧(gB [((at' s_.on_ kz.toNat),true)]=true→(0:Int)≤kz∧kz<(s_.badSource.length:Int))∧(gB [((bif (at' s_.on_ kz.toNat)then(!(at' s_.badSource kz.toNat))else false),true)]=true→(0:Int)≤kz∧kz<(p.sources.length:Int))∧(gB [((bif (at' s_.on_ kz.toNat)then(!(at' s_.badSource kz.toNat))else false),true)]=true→(0:Int)≤(at' p.sources kz.toNat).bus∧(at' p.sources kz.toNat).bus<(s_.badBus.length:Int))) (
 some (bif (bif (at' s_.on_ kz.toNat)then(!(at' s_.badSource kz.toNat))else false)then(!(at' s_.badBus (((at' p.sources kz.toNat).bus).toNat)))else false))
def jR (p:au) (s_:State) (i:Int):Option Bool:=
 bM ((0:Int)≤i∧i<(p.links.length:Int)) (
 bM (((0:Int)≤i∧i<(s_.closed.length:Int))∧(gB [((at' s_.closed i.toNat),true)]=true→(0:Int)≤i∧i<(s_.badLink.length:Int))∧(gB [((bif (at' s_.closed i.toNat)then(!(at' s_.badLink i.toNat))else false),true)]=true→(0:Int)≤(at' p.links i.toNat).a∧(at' p.links i.toNat).a<(s_.badBus.length:Int))∧(gB [((bif (bif (at' s_.closed i.toNat)then(!(at' s_.badLink i.toNat))else false)then(!(at' s_.badBus (((at' p.links i.toNat).a).toNat)))else false),true)]=true→(0:Int)≤(at' p.links i.toNat).b∧(at' p.links i.toNat).b<(s_.badBus.length:Int))) (
 some (bif (bif (bif (at' s_.closed i.toNat)then(!(at' s_.badLink i.toNat))else false)then(!(at' s_.badBus (((at' p.links i.toNat).a).toNat)))else false)then(!(at' s_.badBus (((at' p.links i.toNat).b).toNat)))else false)))
def nO (s_:State) (b:Int):Option Bool:=
 bM (gB [((decide (0≤b)),true)]=true→(0:Int)≤b∧b<(s_.badBus.length:Int)) (
 some (bif (decide (0≤b))then(!(at' s_.badBus b.toNat))else false))
def eF (a:Int) (b:Int) (there:Int) (back:Int) (network:Network):Option (Int × Network):=
 bM (((network.ay.length+[(⟨b,there⟩:bY),(⟨a,back⟩:bY)].length)*16≤140737488355328)∧(network.ay.length+[(⟨b,there⟩:bY),(⟨a,back⟩:bY)].length≤4611686018427387904)) (
 bM (((0:Int)≤a∧a<(network.from_.length:Int))∧(((at' network.from_ a.toNat).length+[(network.ay.length:Int)].length)*8≤140737488355328)∧((at' network.from_ a.toNat).length+[(network.ay.length:Int)].length≤4611686018427387904)) (
 bM (((0:Int)≤b∧b<((network.from_.set a.toNat ((at' network.from_ a.toNat)++[(network.ay.length:Int)])).length:Int))∧(((at' (network.from_.set a.toNat ((at' network.from_ a.toNat)++[(network.ay.length:Int)])) b.toNat).length+[(IntKind.wrap .i64 ((network.ay.length:Int)+1))].length)*8≤140737488355328)∧((at' (network.from_.set a.toNat ((at' network.from_ a.toNat)++[(network.ay.length:Int)])) b.toNat).length+[(IntKind.wrap .i64 ((network.ay.length:Int)+1))].length≤4611686018427387904)) (
 some ((network.ay.length:Int),(⟨(network.ay++[(⟨b,there⟩:bY),(⟨a,back⟩:bY)]),((network.from_.set a.toNat ((at' network.from_ a.toNat)++[(network.ay.length:Int)])).set b.toNat ((at' (network.from_.set a.toNat ((at' network.from_ a.toNat)++[(network.ay.length:Int)])) b.toNat)++[(IntKind.wrap .i64 ((network.ay.length:Int)+1))]))⟩:Network)))))
def fU (network:Network):Option Unit:=
 some ()
def cO (x19:Int) (x20:Int) (o_:(List Int)) (network:Network):(Int × Int)→Option (cZ (Int × Int) (Ex Int (Nat × (List Int) × Network))):=
 fun zz=>match zz with
 |(least,at_)=>
 bM ((0:Int)≤at_∧at_<((o_.set x19.toNat x20).length:Int)) (
 bif (decide (0≤(at' (o_.set x19.toNat x20) at_.toNat)))then
 Option.bind (α:=Int) (
 bM (((0:Int)≤at_∧at_<((o_.set x19.toNat x20).length:Int))∧((0:Int)≤(at' (o_.set x19.toNat x20) at_.toNat)∧(at' (o_.set x19.toNat x20) at_.toNat)<(network.ay.length:Int))) (
 bif (bif (decide (least<0))then true else(decide (((at' network.ay ((at' (o_.set x19.toNat x20) at_.toNat).toNat)).left)<least)))then
 some ((at' network.ay ((at' (o_.set x19.toNat x20) at_.toNat).toNat)).left)
 else
 some least)) fun least2=>
 bM (((0:Int)≤at_∧at_<((o_.set x19.toNat x20).length:Int))∧((0:Int)≤(IntKind.wrap .i64 (((BitVec.ofInt (IntKind.bits .i64) (at' (o_.set x19.toNat x20) at_.toNat) ^^^ BitVec.ofInt (IntKind.bits .i64) 1).toNat:Int)))∧(IntKind.wrap .i64 (((BitVec.ofInt (IntKind.bits .i64) (at' (o_.set x19.toNat x20) at_.toNat) ^^^ BitVec.ofInt (IntKind.bits .i64) 1).toNat:Int)))<(network.ay.length:Int))) (
 some (.next (least2,(at' network.ay ((IntKind.wrap .i64 (((BitVec.ofInt (IntKind.bits .i64) (at' (o_.set x19.toNat x20) at_.toNat) ^^^ BitVec.ofInt (IntKind.bits .i64) 1).toNat:Int))).toNat)).to_)))
 else
 some (.done (.brk least)))
def dh (x19:Int) (x20:Int) (o_:(List Int)) (least1:Int):((List bY) × Int)→Option (cZ ((List bY) × Int) (Ex (List bY) (Nat × (List Int) × Network))):=
 fun zz=>match zz with
 |(o200,at_1)=>
 bM ((0:Int)≤at_1∧at_1<((o_.set x19.toNat x20).length:Int)) (
 bif (decide (0≤(at' (o_.set x19.toNat x20) at_1.toNat)))then
 bM (((0:Int)≤at_1∧at_1<((o_.set x19.toNat x20).length:Int))∧((0:Int)≤(at' (o_.set x19.toNat x20) at_1.toNat)∧(at' (o_.set x19.toNat x20) at_1.toNat)<(o200.length:Int))) (
 bM (((0:Int)≤at_1∧at_1<((o_.set x19.toNat x20).length:Int))∧((0:Int)≤(IntKind.wrap .i64 (((BitVec.ofInt (IntKind.bits .i64) (at' (o_.set x19.toNat x20) at_1.toNat) ^^^ BitVec.ofInt (IntKind.bits .i64) 1).toNat:Int)))∧(IntKind.wrap .i64 (((BitVec.ofInt (IntKind.bits .i64) (at' (o_.set x19.toNat x20) at_1.toNat) ^^^ BitVec.ofInt (IntKind.bits .i64) 1).toNat:Int)))<((o200.set ((at' (o_.set x19.toNat x20) at_1.toNat).toNat) (⟨(at' o200 ((at' (o_.set x19.toNat x20) at_1.toNat).toNat)).to_,(IntKind.wrap .i64 (((at' o200 ((at' (o_.set x19.toNat x20) at_1.toNat).toNat)).left) - least1))⟩:bY)).length:Int))) (
 bM (((0:Int)≤at_1∧at_1<((o_.set x19.toNat x20).length:Int))∧((0:Int)≤(IntKind.wrap .i64 (((BitVec.ofInt (IntKind.bits .i64) (at' (o_.set x19.toNat x20) at_1.toNat) ^^^ BitVec.ofInt (IntKind.bits .i64) 1).toNat:Int)))∧(IntKind.wrap .i64 (((BitVec.ofInt (IntKind.bits .i64) (at' (o_.set x19.toNat x20) at_1.toNat) ^^^ BitVec.ofInt (IntKind.bits .i64) 1).toNat:Int)))<(((o200.set ((at' (o_.set x19.toNat x20) at_1.toNat).toNat) (⟨(at' o200 ((at' (o_.set x19.toNat x20) at_1.toNat).toNat)).to_,(IntKind.wrap .i64 (((at' o200 ((at' (o_.set x19.toNat x20) at_1.toNat).toNat)).left) - least1))⟩:bY)).set ((IntKind.wrap .i64 (((BitVec.ofInt (IntKind.bits .i64) (at' (o_.set x19.toNat x20) at_1.toNat) ^^^ BitVec.ofInt (IntKind.bits .i64) 1).toNat:Int))).toNat) (⟨(at' (o200.set ((at' (o_.set x19.toNat x20) at_1.toNat).toNat) (⟨(at' o200 ((at' (o_.set x19.toNat x20) at_1.toNat).toNat)).to_,(IntKind.wrap .i64 (((at' o200 ((at' (o_.set x19.toNat x20) at_1.toNat).toNat)).left) - least1))⟩:bY)) ((IntKind.wrap .i64 (((BitVec.ofInt (IntKind.bits .i64) (at' (o_.set x19.toNat x20) at_1.toNat) ^^^ BitVec.ofInt (IntKind.bits .i64) 1).toNat:Int))).toNat)).to_,(IntKind.wrap .i64 (((at' (o200.set ((at' (o_.set x19.toNat x20) at_1.toNat).toNat) (⟨(at' o200 ((at' (o_.set x19.toNat x20) at_1.toNat).toNat)).to_,(IntKind.wrap .i64 (((at' o200 ((at' (o_.set x19.toNat x20) at_1.toNat).toNat)).left) - least1))⟩:bY)) ((IntKind.wrap .i64 (((BitVec.ofInt (IntKind.bits .i64) (at' (o_.set x19.toNat x20) at_1.toNat) ^^^ BitVec.ofInt (IntKind.bits .i64) 1).toNat:Int))).toNat)).left)+least1))⟩:bY)).length:Int))) (
 some (.next (((o200.set ((at' (o_.set x19.toNat x20) at_1.toNat).toNat) (⟨(at' o200 ((at' (o_.set x19.toNat x20) at_1.toNat).toNat)).to_,(IntKind.wrap .i64 (((at' o200 ((at' (o_.set x19.toNat x20) at_1.toNat).toNat)).left) - least1))⟩:bY)).set ((IntKind.wrap .i64 (((BitVec.ofInt (IntKind.bits .i64) (at' (o_.set x19.toNat x20) at_1.toNat) ^^^ BitVec.ofInt (IntKind.bits .i64) 1).toNat:Int))).toNat) (⟨(at' (o200.set ((at' (o_.set x19.toNat x20) at_1.toNat).toNat) (⟨(at' o200 ((at' (o_.set x19.toNat x20) at_1.toNat).toNat)).to_,(IntKind.wrap .i64 (((at' o200 ((at' (o_.set x19.toNat x20) at_1.toNat).toNat)).left) - least1))⟩:bY)) ((IntKind.wrap .i64 (((BitVec.ofInt (IntKind.bits .i64) (at' (o_.set x19.toNat x20) at_1.toNat) ^^^ BitVec.ofInt (IntKind.bits .i64) 1).toNat:Int))).toNat)).to_,(IntKind.wrap .i64 (((at' (o200.set ((at' (o_.set x19.toNat x20) at_1.toNat).toNat) (⟨(at' o200 ((at' (o_.set x19.toNat x20) at_1.toNat).toNat)).to_,(IntKind.wrap .i64 (((at' o200 ((at' (o_.set x19.toNat x20) at_1.toNat).toNat)).left) - least1))⟩:bY)) ((IntKind.wrap .i64 (((BitVec.ofInt (IntKind.bits .i64) (at' (o_.set x19.toNat x20) at_1.toNat) ^^^ BitVec.ofInt (IntKind.bits .i64) 1).toNat:Int))).toNat)).left)+least1))⟩:bY)),(at' ((o200.set ((at' (o_.set x19.toNat x20) at_1.toNat).toNat) (⟨(at' o200 ((at' (o_.set x19.toNat x20) at_1.toNat).toNat)).to_,(IntKind.wrap .i64 (((at' o200 ((at' (o_.set x19.toNat x20) at_1.toNat).toNat)).left) - least1))⟩:bY)).set ((IntKind.wrap .i64 (((BitVec.ofInt (IntKind.bits .i64) (at' (o_.set x19.toNat x20) at_1.toNat) ^^^ BitVec.ofInt (IntKind.bits .i64) 1).toNat:Int))).toNat) (⟨(at' (o200.set ((at' (o_.set x19.toNat x20) at_1.toNat).toNat) (⟨(at' o200 ((at' (o_.set x19.toNat x20) at_1.toNat).toNat)).to_,(IntKind.wrap .i64 (((at' o200 ((at' (o_.set x19.toNat x20) at_1.toNat).toNat)).left) - least1))⟩:bY)) ((IntKind.wrap .i64 (((BitVec.ofInt (IntKind.bits .i64) (at' (o_.set x19.toNat x20) at_1.toNat) ^^^ BitVec.ofInt (IntKind.bits .i64) 1).toNat:Int))).toNat)).to_,(IntKind.wrap .i64 (((at' (o200.set ((at' (o_.set x19.toNat x20) at_1.toNat).toNat) (⟨(at' o200 ((at' (o_.set x19.toNat x20) at_1.toNat).toNat)).to_,(IntKind.wrap .i64 (((at' o200 ((at' (o_.set x19.toNat x20) at_1.toNat).toNat)).left) - least1))⟩:bY)) ((IntKind.wrap .i64 (((BitVec.ofInt (IntKind.bits .i64) (at' (o_.set x19.toNat x20) at_1.toNat) ^^^ BitVec.ofInt (IntKind.bits .i64) 1).toNat:Int))).toNat)).left)+least1))⟩:bY)) ((IntKind.wrap .i64 (((BitVec.ofInt (IntKind.bits .i64) (at' (o_.set x19.toNat x20) at_1.toNat) ^^^ BitVec.ofInt (IntKind.bits .i64) 1).toNat:Int))).toNat)).to_)))))
 else
 some (.done (.brk o200)))
def dS (x19:Int) (x20:Int) (int:Int) (o_:(List Int)) (network:Network):Option (Nat × (List Int) × Network):=
 bM ((0:Int)≤x19∧x19<(o_.length:Int)) (
 bif (!decide (x19=int))then
 some (0,(o_.set x19.toNat x20),network)
 else
 Option.bind (aV (cO x19 x20 o_ network) FUEL ((-1),int)) fun o=>match o with
 | .ret v=>some v
 | .brk least1=>
 Option.bind (aV (dh x19 x20 o_ least1) FUEL (network.ay,int)) fun o=>match o with
 | .ret v=>some v
 | .brk o2001=>
 some (2,(o_.set x19.toNat x20),(⟨o2001,network.from_⟩:Network)))
def jJ (x:ah) (o_:bJ):Option bJ:=
 bM (((o_.l.length+[x].length)*16≤140737488355328)∧(o_.l.length+[x].length≤4611686018427387904)) (
 some (⟨(o_.l++[x])⟩:bJ))
def jl (o_:bJ):Option (ah × Bool × bJ):=
 bif (decide ((o_.l.length:Int)=0))then
 some ((⟨0,0⟩:ah),false,o_)
 else
 bM (((0:Int)≤0∧0<(o_.l.length:Int))∧((0:Int)≤(1:Int)∧(1:Int)≤(o_.l.length:Int))) (
 some ((at' o_.l 0),true,(⟨(o_.l.drop 1)⟩:bJ)))
def dX (at0:Int) (r_:(Nat × (List Int) × Network)):((List Bool) × (List ah) × Int)→Option (cZ ((List Bool) × (List ah) × Int) (Ex ((List Bool) × (List ah)) (cZ ((List bY) × (List (List Int)) × (List Int) × (List Bool) × (List ah) × Int × Int) (Ex Unit (Nat × (List Int) × Network))))):=
 fun zz=>match zz with
 |(seen1,q01,t36)=>
 bif (decide (t36<((at' r_.2.2.from_ at0.toNat).length:Int)))then
 bM ((0:Int)≤t36∧t36<((at' r_.2.2.from_ at0.toNat).length:Int)) (
 bM ((0:Int)≤(at' (at' r_.2.2.from_ at0.toNat) t36.toNat)∧(at' (at' r_.2.2.from_ at0.toNat) t36.toNat)<(r_.2.2.ay.length:Int)) (
 bM (gB [((decide (0<((at' r_.2.2.ay ((at' (at' r_.2.2.from_ at0.toNat) t36.toNat).toNat)).left))),true)]=true→(0:Int)≤(at' r_.2.2.ay ((at' (at' r_.2.2.from_ at0.toNat) t36.toNat).toNat)).to_∧(at' r_.2.2.ay ((at' (at' r_.2.2.from_ at0.toNat) t36.toNat).toNat)).to_<(seen1.length:Int)) (
 bif (bif (decide (0<((at' r_.2.2.ay ((at' (at' r_.2.2.from_ at0.toNat) t36.toNat).toNat)).left)))then(!(at' seen1 (((at' r_.2.2.ay ((at' (at' r_.2.2.from_ at0.toNat) t36.toNat).toNat)).to_).toNat)))else false)then
 bM ((0:Int)≤(at' r_.2.2.ay ((at' (at' r_.2.2.from_ at0.toNat) t36.toNat).toNat)).to_∧(at' r_.2.2.ay ((at' (at' r_.2.2.from_ at0.toNat) t36.toNat).toNat)).to_<(seen1.length:Int)) (
 (jJ (⟨(at' r_.2.2.ay ((at' (at' r_.2.2.from_ at0.toNat) t36.toNat).toNat)).to_,(at' (at' r_.2.2.from_ at0.toNat) t36.toNat)⟩:ah) (⟨q01⟩:bJ)).bind fun r_1=>
 some (.next ((seen1.set (((at' r_.2.2.ay ((at' (at' r_.2.2.from_ at0.toNat) t36.toNat).toNat)).to_).toNat) true),r_1.l,(IntKind.wrap .i64 (t36+1)))))
 else
 some (.next (seen1,q01,(IntKind.wrap .i64 (t36+1)))))))
 else
 some (.done (.brk (seen1,q01)))
def iI (int:Int):((List bY) × (List (List Int)) × (List Int) × (List Bool) × (List ah) × Int × Int)→Option (cZ ((List bY) × (List (List Int)) × (List Int) × (List Bool) × (List ah) × Int × Int) (Ex Unit (Nat × (List Int) × Network))):=
 fun zz=>match zz with
 |(o200,o201,o40,seen,q0,at0,at1)=>
 (dS at0 at1 int o40 (⟨o200,o201⟩:Network)).bind fun r_=>
 bif (Nat.beq r_.1 0)then
 bM ((0:Int)≤at0∧at0<(r_.2.2.from_.length:Int)) (
 Option.bind (aV (dX at0 r_) FUEL (seen,q0,0)) fun o=>match o with
 | .ret v=>some v
 | .brk (seen2,q02)=>
 (jl (⟨q02⟩:bJ)).bind fun r_2=>
 bif (!r_2.2.1)then
 some (.done (.ret (0,r_.2.1,r_.2.2)))
 else
 some (.next (r_.2.2.ay,r_.2.2.from_,r_.2.1,seen2,r_2.2.2.l,r_2.1.e0,r_2.1.e1)))
 else
 some (.done (.ret (r_.1,r_.2.1,r_.2.2)))
def gX (int:Int) (o_:(List Int)) (network:Network):Option (Nat × (List Int) × Network):=
 bM (((0:Int)≤(network.from_.length:Int))∧((1:Int)*(network.from_.length:Int)≤281474976710656)∧(((network.from_.length:Int):Int)≤9223372036854775807)) (
 bM ((0:Int)≤0∧0<((List.replicate ((network.from_.length:Int).toNat) (false:Bool)).length:Int)) (
 Option.bind (aV (iI int) FUEL (network.ay,network.from_,o_,((List.replicate ((network.from_.length:Int).toNat) (false:Bool)).set 0 true),([]:List ah),0,(-1))) fun o=>match o with
 | .ret v=>some v
 | .brk _=>none))
def jM (sink:Int):((List bY) × (List (List Int)))→Option (cZ ((List bY) × (List (List Int))) (Ex Unit Network)):=
 fun zz=>match zz with
 |(o0,o1)=>
 bM (((0:Int)≤(o1.length:Int))∧((8:Int)*(o1.length:Int)≤281474976710656)∧(((o1.length:Int):Int)≤9223372036854775807)) (
 (fU (⟨o0,o1⟩:Network)).bind fun r_=>
 (gX sink (List.replicate ((o1.length:Int).toNat) (0:Int)) (⟨o0,o1⟩:Network)).bind fun r_1=>
 bif Nat.beq r_1.1 0 then
 some (.done (.ret r_1.2.2))
 else
 bM (r_1.1=2) (
 some (.next (r_1.2.2.ay,r_1.2.2.from_))))
def jC (sink:Int) (network:Network):Option Network:=
 Option.bind (aV (jM sink) FUEL (network.ay,network.from_)) fun o=>match o with
 | .ret v=>some v
 | .brk _=>none
def kM (x236:Int) (x237:Int) (plant:au) (o_:(List Bool)):Option (List Bool):=
 bif (bif (decide (0<x236))then(decide (x236≤plant.buses))else false)then
 bM ((0:Int)≤(IntKind.wrap .i64 (x236 - 1))∧(IntKind.wrap .i64 (x236 - 1))<(o_.length:Int)) (
 some (o_.set ((IntKind.wrap .i64 (x236 - 1)).toNat) true))
 else
 some o_
def dM (x1:(List bY)) (x11:(List (List Int))) (at0:Int):((List Bool) × (List ah) × Int)→Option (cZ ((List Bool) × (List ah) × Int) (Ex ((List Bool) × (List ah)) (cZ ((List Bool) × (List Bool) × (List ah) × Int × Int) (Ex Unit (List Bool))))):=
 fun zz=>match zz with
 |(seen1,q01,t36)=>
 bif (decide (t36<((at' x11 at0.toNat).length:Int)))then
 bM ((0:Int)≤t36∧t36<((at' x11 at0.toNat).length:Int)) (
 bM ((0:Int)≤(at' (at' x11 at0.toNat) t36.toNat)∧(at' (at' x11 at0.toNat) t36.toNat)<(x1.length:Int)) (
 bM (gB [((decide (0<((at' x1 ((at' (at' x11 at0.toNat) t36.toNat).toNat)).left))),true)]=true→(0:Int)≤(at' x1 ((at' (at' x11 at0.toNat) t36.toNat).toNat)).to_∧(at' x1 ((at' (at' x11 at0.toNat) t36.toNat).toNat)).to_<(seen1.length:Int)) (
 bif (bif (decide (0<((at' x1 ((at' (at' x11 at0.toNat) t36.toNat).toNat)).left)))then(!(at' seen1 (((at' x1 ((at' (at' x11 at0.toNat) t36.toNat).toNat)).to_).toNat)))else false)then
 bM ((0:Int)≤(at' x1 ((at' (at' x11 at0.toNat) t36.toNat).toNat)).to_∧(at' x1 ((at' (at' x11 at0.toNat) t36.toNat).toNat)).to_<(seen1.length:Int)) (
 (jJ (⟨(at' x1 ((at' (at' x11 at0.toNat) t36.toNat).toNat)).to_,(at' (at' x11 at0.toNat) t36.toNat)⟩:ah) (⟨q01⟩:bJ)).bind fun r_1=>
 some (.next ((seen1.set (((at' x1 ((at' (at' x11 at0.toNat) t36.toNat).toNat)).to_).toNat) true),r_1.l,(IntKind.wrap .i64 (t36+1)))))
 else
 some (.next (seen1,q01,(IntKind.wrap .i64 (t36+1)))))))
 else
 some (.done (.brk (seen1,q01)))
def gN (x1:(List bY)) (x11:(List (List Int))) (plant:au):((List Bool) × (List Bool) × (List ah) × Int × Int)→Option (cZ ((List Bool) × (List Bool) × (List ah) × Int × Int) (Ex Unit (List Bool))):=
 fun zz=>match zz with
 |(o280,seen,q0,at0,at1)=>
 (kM at0 at1 plant o280).bind fun r_=>
 bM ((0:Int)≤at0∧at0<(x11.length:Int)) (
 Option.bind (aV (dM x1 x11 at0) FUEL (seen,q0,0)) fun o=>match o with
 | .ret v=>some v
 | .brk (seen2,q02)=>
 (jl (⟨q02⟩:bJ)).bind fun r_2=>
 bif (!r_2.2.1)then
 some (.done (.ret r_))
 else
 some (.next (r_,seen2,r_2.2.2.l,r_2.1.e0,r_2.1.e1)))
def dW (x1:(List bY)) (x11:(List (List Int))) (plant:au) (o_:(List Bool)):Option (List Bool):=
 bM (((0:Int)≤(x11.length:Int))∧((1:Int)*(x11.length:Int)≤281474976710656)∧(((x11.length:Int):Int)≤9223372036854775807)) (
 bM ((0:Int)≤0∧0<((List.replicate ((x11.length:Int).toNat) (false:Bool)).length:Int)) (
 Option.bind (aV (gN x1 x11 plant) FUEL (o_,((List.replicate ((x11.length:Int).toNat) (false:Bool)).set 0 true),([]:List ah),0,(-1))) fun o=>match o with
 | .ret v=>some v
 | .brk _=>none))
def jY (p:au) (s_:State):((List bY) × (List (List Int)) × (List (Int × Int)) × Int)→Option (cZ ((List bY) × (List (List Int)) × (List (Int × Int)) × Int) (Ex ((List Source) × (List bY) × (List (List Int)) × (List Int) × (List (Int × Int))) (bX × (List Bool) × Int))):=
 fun zz=>match zz with
 |(n0,n1,sources,t68)=>
 bif (decide (t68<(p.sources.length:Int)))then
 bM ((0:Int)≤t68∧t68<(p.sources.length:Int)) (
 (qG p s_ t68).bind fun r_1=>
 bif r_1 then
 (eF 0 (IntKind.wrap .i64 ((1:Int)+((at' p.sources t68.toNat).bus))) ((at' p.sources t68.toNat).power) 0 (⟨n0,n1⟩:Network)).bind fun r_2=>
 some (.next (r_2.2.ay,r_2.2.from_,(dL bA t68 r_2.1 sources),(IntKind.wrap .i64 (t68+1))))
 else
 some (.next (n0,n1,sources,(IntKind.wrap .i64 (t68+1)))))
 else
 some (.done (.brk (p.sources,n0,n1,(List.replicate ((p.sources.length:Int).toNat) (0:Int)),sources)))
def jZ (p:au) (s_:State) (p1:(List Source)):((List bY) × (List (List Int)) × (List (Int × Int)) × Int)→Option (cZ ((List bY) × (List (List Int)) × (List (Int × Int)) × Int) (Ex ((List Link) × (List bY) × (List (List Int)) × (List Int) × (List (Int × Int))) (bX × (List Bool) × Int))):=
 fun zz=>match zz with
 |(n02,n12,links,t90)=>
 bif (decide (t90<(p.links.length:Int)))then
 bM ((0:Int)≤t90∧t90<(p.links.length:Int)) (
 (jR (⟨p.buses,p1,p.links,p.racks⟩:au) s_ t90).bind fun r_3=>
 bif r_3 then
 (eF (IntKind.wrap .i64 ((1:Int)+((at' p.links t90.toNat).a))) (IntKind.wrap .i64 ((1:Int)+((at' p.links t90.toNat).b))) ((at' p.links t90.toNat).most) ((at' p.links t90.toNat).most) (⟨n02,n12⟩:Network)).bind fun r_4=>
 some (.next (r_4.2.ay,r_4.2.from_,(dL bA t90 r_4.1 links),(IntKind.wrap .i64 (t90+1))))
 else
 some (.next (n02,n12,links,(IntKind.wrap .i64 (t90+1)))))
 else
 some (.done (.brk (p.links,n02,n12,(List.replicate ((p.links.length:Int).toNat) (0:Int)),links)))
def ig (p:au) (s_:State) (t115:(List aT)) (t117:Int):((List bY) × (List (List Int)) × (List (ah × Int)) × Int)→Option (cZ ((List bY) × (List (List Int)) × (List (ah × Int)) × Int) (Ex ((List bY) × (List (List Int)) × (List (ah × Int))) (cZ ((List aT) × Int × (List bY) × (List (List Int)) × (List ah) × (List (ah × Int)) × (List aT) × Int × Int) (Ex ((List aT) × Int × (List bY) × (List (List Int)) × (List ah) × (List (ah × Int))) (bX × (List Bool) × Int))))):=
 fun zz=>match zz with
 |(n06,n16,racks2,t134)=>
 bif (decide (t134<2))then
 bM ((0:Int)≤t134∧t134<((2:Nat):Int)) (
 (nO s_ (at' [((at' t115 t117.toNat).feeds).e0,((at' t115 t117.toNat).feeds).e1] t134.toNat)).bind fun r_6=>
 bif r_6 then
 (eF (IntKind.wrap .i64 ((1:Int)+(at' [((at' t115 t117.toNat).feeds).e0,((at' t115 t117.toNat).feeds).e1] t134.toNat))) (IntKind.wrap .i64 ((IntKind.wrap .i64 ((1:Int)+p.buses))+t117)) ((at' t115 t117.toNat).power) 0 (⟨n06,n16⟩:Network)).bind fun r_7=>
 some (.next (r_7.2.ay,r_7.2.from_,(dL (fun a b=>(decide (a.e0=b.e0) && (decide (a.e1=b.e1) && true))) (⟨t117,t134⟩:ah) r_7.1 racks2),(IntKind.wrap .i64 (t134+1))))
 else
 some (.next (n06,n16,racks2,(IntKind.wrap .i64 (t134+1)))))
 else
 some (.done (.brk (n06,n16,racks2)))
def jV (p:au) (s_:State):((List aT) × Int × (List bY) × (List (List Int)) × (List ah) × (List (ah × Int)) × (List aT) × Int × Int)→Option (cZ ((List aT) × Int × (List bY) × (List (List Int)) × (List ah) × (List (ah × Int)) × (List aT) × Int × Int) (Ex ((List aT) × Int × (List bY) × (List (List Int)) × (List ah) × (List (ah × Int))) (bX × (List Bool) × Int))):=
 fun zz=>match zz with
 |(p3,sink,n04,n14,x2,racks,t115,t116,t117)=>
 bif (decide (t117<t116))then
 bM ((0:Int)≤t117∧t117<(t115.length:Int)) (
 (eF (IntKind.wrap .i64 ((IntKind.wrap .i64 ((1:Int)+p.buses))+t117)) sink ((at' t115 t117.toNat).power) 0 (⟨n04,n14⟩:Network)).bind fun r_5=>
 Option.bind (aV (ig p s_ t115 t117) FUEL (r_5.2.ay,r_5.2.from_,racks,0)) fun o=>match o with
 | .ret v=>some v
 | .brk (n07,n17,racks3)=>
 some (.next (p3,sink,n07,n17,x2,racks3,t115,t116,(IntKind.wrap .i64 (t117+1)))))
 else
 some (.done (.brk (p3,sink,n04,n14,x2,racks)))
def mG (sources1:(List (Int × Int))) (r_8:Network):(List Int)→Nat→Option (List Int):=
 fun x01 i=>
 bM (((0:Int)≤(IntKind.wrap .i64 (((BitVec.ofInt (IntKind.bits .i64) (at' (sources1.map Prod.snd) i) ^^^ BitVec.ofInt (IntKind.bits .i64) 1).toNat:Int)))∧(IntKind.wrap .i64 (((BitVec.ofInt (IntKind.bits .i64) (at' (sources1.map Prod.snd) i) ^^^ BitVec.ofInt (IntKind.bits .i64) 1).toNat:Int)))<(r_8.ay.length:Int))∧((0:Int)≤(at' (sources1.map Prod.fst) i)∧(at' (sources1.map Prod.fst) i)<(x01.length:Int))) (
 some (x01.set ((at' (sources1.map Prod.fst) i).toNat) ((at' r_8.ay ((IntKind.wrap .i64 (((BitVec.ofInt (IntKind.bits .i64) (at' (sources1.map Prod.snd) i) ^^^ BitVec.ofInt (IntKind.bits .i64) 1).toNat:Int))).toNat)).left)))
def mF (p2:(List Link)) (links1:(List (Int × Int))) (r_8:Network):(List Int)→Nat→Option (List Int):=
 fun x11 i1=>
 bM (((0:Int)≤(at' (links1.map Prod.fst) i1)∧(at' (links1.map Prod.fst) i1)<(p2.length:Int))∧((0:Int)≤(at' (links1.map Prod.snd) i1)∧(at' (links1.map Prod.snd) i1)<(r_8.ay.length:Int))∧((0:Int)≤(at' (links1.map Prod.fst) i1)∧(at' (links1.map Prod.fst) i1)<(x11.length:Int))) (
 some (x11.set ((at' (links1.map Prod.fst) i1).toNat) (IntKind.wrap .i64 (((at' p2 ((at' (links1.map Prod.fst) i1).toNat)).most) - ((at' r_8.ay ((at' (links1.map Prod.snd) i1).toNat)).left)))))
def mI (racks1:(List (ah × Int))) (r_8:Network):(List ah)→Nat→Option (List ah):=
 fun x22 i2=>
 bif (decide ((at' (racks1.map Prod.fst) i2).e1=0))then
 bM (((0:Int)≤(IntKind.wrap .i64 (((BitVec.ofInt (IntKind.bits .i64) (at' (racks1.map Prod.snd) i2) ^^^ BitVec.ofInt (IntKind.bits .i64) 1).toNat:Int)))∧(IntKind.wrap .i64 (((BitVec.ofInt (IntKind.bits .i64) (at' (racks1.map Prod.snd) i2) ^^^ BitVec.ofInt (IntKind.bits .i64) 1).toNat:Int)))<(r_8.ay.length:Int))∧((0:Int)≤(at' (racks1.map Prod.fst) i2).e0∧(at' (racks1.map Prod.fst) i2).e0<(x22.length:Int))) (
 some (x22.set (((at' (racks1.map Prod.fst) i2).e0).toNat) (⟨(at' r_8.ay ((IntKind.wrap .i64 (((BitVec.ofInt (IntKind.bits .i64) (at' (racks1.map Prod.snd) i2) ^^^ BitVec.ofInt (IntKind.bits .i64) 1).toNat:Int))).toNat)).left,(at' x22 (((at' (racks1.map Prod.fst) i2).e0).toNat)).e1⟩:ah)))
 else
 bM ((at' (racks1.map Prod.fst) i2).e1=1) (
 bM (((0:Int)≤(IntKind.wrap .i64 (((BitVec.ofInt (IntKind.bits .i64) (at' (racks1.map Prod.snd) i2) ^^^ BitVec.ofInt (IntKind.bits .i64) 1).toNat:Int)))∧(IntKind.wrap .i64 (((BitVec.ofInt (IntKind.bits .i64) (at' (racks1.map Prod.snd) i2) ^^^ BitVec.ofInt (IntKind.bits .i64) 1).toNat:Int)))<(r_8.ay.length:Int))∧((0:Int)≤(at' (racks1.map Prod.fst) i2).e0∧(at' (racks1.map Prod.fst) i2).e0<(x22.length:Int))) (
 some (x22.set (((at' (racks1.map Prod.fst) i2).e0).toNat) (⟨(at' x22 (((at' (racks1.map Prod.fst) i2).e0).toNat)).e0,(at' r_8.ay ((IntKind.wrap .i64 (((BitVec.ofInt (IntKind.bits .i64) (at' (racks1.map Prod.snd) i2) ^^^ BitVec.ofInt (IntKind.bits .i64) 1).toNat:Int))).toNat)).left⟩:ah))))
def jd (p:au) (s_:State):Option (bX × (List Bool) × Int):=
 (dI p s_).bind fun r_=>
 bif (!decide (r_=0))then
 some ((⟨([]:List Int),([]:List Int),([]:List ah)⟩:bX),([]:List Bool),r_)
 else
 bM (((0:Int)≤(IntKind.wrap .i64 ((IntKind.wrap .i64 ((IntKind.wrap .i64 ((1:Int)+p.buses))+(p.racks.length:Int)))+1)))∧((24:Int)*(IntKind.wrap .i64 ((IntKind.wrap .i64 ((IntKind.wrap .i64 ((1:Int)+p.buses))+(p.racks.length:Int)))+1))≤281474976710656)∧(((IntKind.wrap .i64 ((IntKind.wrap .i64 ((IntKind.wrap .i64 ((1:Int)+p.buses))+(p.racks.length:Int)))+1)):Int)≤9223372036854775807)) (
 bM (((0:Int)≤(p.sources.length:Int))∧((8:Int)*(p.sources.length:Int)≤281474976710656)∧(((p.sources.length:Int):Int)≤9223372036854775807)∧((0:Int)≤(p.links.length:Int))∧((8:Int)*(p.links.length:Int)≤281474976710656)∧(((p.links.length:Int):Int)≤9223372036854775807)∧((0:Int)≤(p.racks.length:Int))∧((16:Int)*(p.racks.length:Int)≤281474976710656)∧(((p.racks.length:Int):Int)≤9223372036854775807)) (
 Option.bind (aV (jY p s_) FUEL (([]:List bY),(List.replicate ((IntKind.wrap .i64 ((IntKind.wrap .i64 ((IntKind.wrap .i64 ((1:Int)+p.buses))+(p.racks.length:Int)))+1)).toNat) (([]:List Int):(List Int))),([]:(List (Int × Int))),0)) fun o=>match o with
 | .ret v=>some v
 | .brk (p1,n01,n11,x0,sources1)=>
 Option.bind (aV (jZ p s_ p1) FUEL (n01,n11,([]:(List (Int × Int))),0)) fun o=>match o with
 | .ret v=>some v
 | .brk (p2,n03,n13,x1,links1)=>
 Option.bind (aV (jV p s_) FUEL (p.racks,(IntKind.wrap .i64 ((IntKind.wrap .i64 ((1:Int)+p.buses))+(p.racks.length:Int))),n03,n13,(List.replicate ((p.racks.length:Int).toNat) ((⟨0,0⟩:ah):ah)),([]:(List (ah × Int))),p.racks,(p.racks.length:Int),0)) fun o=>match o with
 | .ret v=>some v
 | .brk (p31,sink1,n05,n15,x21,racks1)=>
 (jC sink1 (⟨n05,n15⟩:Network)).bind fun r_8=>
 Option.bind (uD (mG sources1 r_8) sources1.length (List.range sources1.length) (x0)) fun x02=>
 Option.bind (uD (mF p2 links1 r_8) links1.length (List.range links1.length) (x1)) fun x12=>
 Option.bind (uD (mI racks1 r_8) racks1.length (List.range racks1.length) (x21)) fun x23=>
 bM (((0:Int)≤p.buses)∧((1:Int)*p.buses≤281474976710656)∧((p.buses:Int)≤9223372036854775807)) (
 (fU r_8).bind fun r_9=>
 (dW r_8.ay r_8.from_ (⟨p.buses,p1,p2,p31⟩:au) (List.replicate p.buses.toNat (false:Bool))).bind fun r_10=>
 some ((⟨x02,x12,x23⟩:bX),r_10,0))))
def jK (x:bX):(Int × Int)→Option (cZ (Int × Int) (Ex Int Int)):=
 fun zz=>match zz with
 |(n,t9)=>
 bif (decide (t9<(x.racks.length:Int)))then
 bM ((0:Int)≤t9∧t9<(x.racks.length:Int)) (
 some (.next ((IntKind.wrap .i64 (n+(IntKind.wrap .i64 (((at' x.racks t9.toNat).e0)+((at' x.racks t9.toNat).e1))))),(IntKind.wrap .i64 (t9+1)))))
 else
 some (.done (.brk n))
def j6 (x:bX):Option Int:=
 Option.bind (aV (jK x) FUEL (0,0)) fun o=>match o with
 | .ret v=>some v
 | .brk n1=>
 some n1
def Em:Option (au × State):=
 some ((⟨2,[(⟨0,1,9,0,10⟩:Source)],[(⟨0,1,3,9,10,([]:List lW)⟩:Link)],[(⟨(⟨1,(-1)⟩:ah),5,1⟩:aT)]⟩:au),(⟨[true],[false],[false],[true],[false],[false,false],[false,false]⟩:State))
def rG (i:Int) (x1:Int):Option Bool:=
 some (bif (decide (i<0))then true else(decide (x1≤i)))
def uL (s_:(List Int)) (f_:Int):Int→Option (cZ Int (Ex Unit Int)):=
 fun t8=>
 bif (decide (t8<(s_.length:Int)))then
 (rG (at' s_ t8.toNat) f_).bind fun r_=>
 bM ((0:Int)≤t8∧t8<(s_.length:Int)) (
 bif r_ then
 some (.done (.ret t8))
 else
 some (.next (IntKind.wrap .i64 (t8+1))))
 else
 some (.done (.brk ()))
def oI (s_:(List Int)) (f_:Int):Option Int:=
 Option.bind (aV (uL s_ f_) FUEL (0)) fun o=>match o with
 | .ret v=>some v
 | .brk _=>
 some (-1)
def lY (s_:(List Int)) (f_:Int):Option Bool:=
 (oI s_ f_).bind fun r_=>
 some (decide (0≤r_))
def oW (l:(List Int)) (n:Int):Option Bool:=
 (bif gB [((decide ((l.length:Int)≤24)),true)]then lY l n else some default).bind fun r_=>
 some (bif (decide ((l.length:Int)≤24))then(!r_)else false)
def sK (p:au) (x:aJ):Option Bool:=
 bif (decide (x.deed=1))then
 bif (decide (x.deed=1))then
 bM (gB [((bif (decide (0≤x.index))then(decide (x.index<(p.links.length:Int)))else false),true)]=true→(0:Int)≤x.index∧x.index<(p.links.length:Int)) (
 some (bif (bif (decide (0≤x.index))then(decide (x.index<(p.links.length:Int)))else false)then(!decide (((at' p.links x.index.toNat).kind)=1))else false))
 else
 bif (decide (x.deed=3))then
 bif (decide (x.deed=3))then
 some (bif (decide (0≤x.index))then(decide (x.index<p.buses))else false)
 else
 bif (decide (x.deed=7))then
 bif (decide (x.deed=7))then
 some (bif (decide (0≤x.index))then(decide (x.index<(p.sources.length:Int)))else false)
 else
 bM (gB [((bif (decide (0≤x.index))then(decide (x.index<0))else false),true)]=true→(0:Int)≤x.index∧x.index<(p.links.length:Int)) (
 some (bif (bif (decide (0≤x.index))then(decide (x.index<0))else false)then(!decide (((at' p.links x.index.toNat).kind)=1))else false))
 else
 bif (decide (x.deed=8))then
 some (bif (decide (0≤x.index))then(decide (x.index<(p.sources.length:Int)))else false)
 else
 bM (gB [((bif (decide (0≤x.index))then(decide (x.index<0))else false),true)]=true→(0:Int)≤x.index∧x.index<(p.links.length:Int)) (
 some (bif (bif (decide (0≤x.index))then(decide (x.index<0))else false)then(!decide (((at' p.links x.index.toNat).kind)=1))else false))
 else
 bif (decide (x.deed=4))then
 some (bif (decide (0≤x.index))then(decide (x.index<p.buses))else false)
 else
 bif (decide (x.deed=7))then
 bif (decide (x.deed=7))then
 some (bif (decide (0≤x.index))then(decide (x.index<(p.sources.length:Int)))else false)
 else
 bM (gB [((bif (decide (0≤x.index))then(decide (x.index<0))else false),true)]=true→(0:Int)≤x.index∧x.index<(p.links.length:Int)) (
 some (bif (bif (decide (0≤x.index))then(decide (x.index<0))else false)then(!decide (((at' p.links x.index.toNat).kind)=1))else false))
 else
 bif (decide (x.deed=8))then
 some (bif (decide (0≤x.index))then(decide (x.index<(p.sources.length:Int)))else false)
 else
 bM (gB [((bif (decide (0≤x.index))then(decide (x.index<0))else false),true)]=true→(0:Int)≤x.index∧x.index<(p.links.length:Int)) (
 some (bif (bif (decide (0≤x.index))then(decide (x.index<0))else false)then(!decide (((at' p.links x.index.toNat).kind)=1))else false))
 else
 bif (decide (x.deed=2))then
 bif (decide (x.deed=2))then
 bM (gB [((bif (decide (0≤x.index))then(decide (x.index<(p.links.length:Int)))else false),true)]=true→(0:Int)≤x.index∧x.index<(p.links.length:Int)) (
 some (bif (bif (decide (0≤x.index))then(decide (x.index<(p.links.length:Int)))else false)then(!decide (((at' p.links x.index.toNat).kind)=1))else false))
 else
 bif (decide (x.deed=3))then
 bif (decide (x.deed=3))then
 some (bif (decide (0≤x.index))then(decide (x.index<p.buses))else false)
 else
 bif (decide (x.deed=7))then
 bif (decide (x.deed=7))then
 some (bif (decide (0≤x.index))then(decide (x.index<(p.sources.length:Int)))else false)
 else
 bM (gB [((bif (decide (0≤x.index))then(decide (x.index<0))else false),true)]=true→(0:Int)≤x.index∧x.index<(p.links.length:Int)) (
 some (bif (bif (decide (0≤x.index))then(decide (x.index<0))else false)then(!decide (((at' p.links x.index.toNat).kind)=1))else false))
 else
 bif (decide (x.deed=8))then
 some (bif (decide (0≤x.index))then(decide (x.index<(p.sources.length:Int)))else false)
 else
 bM (gB [((bif (decide (0≤x.index))then(decide (x.index<0))else false),true)]=true→(0:Int)≤x.index∧x.index<(p.links.length:Int)) (
 some (bif (bif (decide (0≤x.index))then(decide (x.index<0))else false)then(!decide (((at' p.links x.index.toNat).kind)=1))else false))
 else
 bif (decide (x.deed=4))then
 some (bif (decide (0≤x.index))then(decide (x.index<p.buses))else false)
 else
 bif (decide (x.deed=7))then
 bif (decide (x.deed=7))then
 some (bif (decide (0≤x.index))then(decide (x.index<(p.sources.length:Int)))else false)
 else
 bM (gB [((bif (decide (0≤x.index))then(decide (x.index<0))else false),true)]=true→(0:Int)≤x.index∧x.index<(p.links.length:Int)) (
 some (bif (bif (decide (0≤x.index))then(decide (x.index<0))else false)then(!decide (((at' p.links x.index.toNat).kind)=1))else false))
 else
 bif (decide (x.deed=8))then
 some (bif (decide (0≤x.index))then(decide (x.index<(p.sources.length:Int)))else false)
 else
 bM (gB [((bif (decide (0≤x.index))then(decide (x.index<0))else false),true)]=true→(0:Int)≤x.index∧x.index<(p.links.length:Int)) (
 some (bif (bif (decide (0≤x.index))then(decide (x.index<0))else false)then(!decide (((at' p.links x.index.toNat).kind)=1))else false))
 else
 bif (decide (x.deed=5))then
 bif (decide (x.deed=5))then
 bM (gB [((bif (decide (0≤x.index))then(decide (x.index<(p.links.length:Int)))else false),true)]=true→(0:Int)≤x.index∧x.index<(p.links.length:Int)) (
 some (bif (bif (decide (0≤x.index))then(decide (x.index<(p.links.length:Int)))else false)then(!decide (((at' p.links x.index.toNat).kind)=1))else false))
 else
 bif (decide (x.deed=3))then
 bif (decide (x.deed=3))then
 some (bif (decide (0≤x.index))then(decide (x.index<p.buses))else false)
 else
 bif (decide (x.deed=7))then
 bif (decide (x.deed=7))then
 some (bif (decide (0≤x.index))then(decide (x.index<(p.sources.length:Int)))else false)
 else
 bM (gB [((bif (decide (0≤x.index))then(decide (x.index<0))else false),true)]=true→(0:Int)≤x.index∧x.index<(p.links.length:Int)) (
 some (bif (bif (decide (0≤x.index))then(decide (x.index<0))else false)then(!decide (((at' p.links x.index.toNat).kind)=1))else false))
 else
 bif (decide (x.deed=8))then
 some (bif (decide (0≤x.index))then(decide (x.index<(p.sources.length:Int)))else false)
 else
 bM (gB [((bif (decide (0≤x.index))then(decide (x.index<0))else false),true)]=true→(0:Int)≤x.index∧x.index<(p.links.length:Int)) (
 some (bif (bif (decide (0≤x.index))then(decide (x.index<0))else false)then(!decide (((at' p.links x.index.toNat).kind)=1))else false))
 else
 bif (decide (x.deed=4))then
 some (bif (decide (0≤x.index))then(decide (x.index<p.buses))else false)
 else
 bif (decide (x.deed=7))then
 bif (decide (x.deed=7))then
 some (bif (decide (0≤x.index))then(decide (x.index<(p.sources.length:Int)))else false)
 else
 bM (gB [((bif (decide (0≤x.index))then(decide (x.index<0))else false),true)]=true→(0:Int)≤x.index∧x.index<(p.links.length:Int)) (
 some (bif (bif (decide (0≤x.index))then(decide (x.index<0))else false)then(!decide (((at' p.links x.index.toNat).kind)=1))else false))
 else
 bif (decide (x.deed=8))then
 some (bif (decide (0≤x.index))then(decide (x.index<(p.sources.length:Int)))else false)
 else
 bM (gB [((bif (decide (0≤x.index))then(decide (x.index<0))else false),true)]=true→(0:Int)≤x.index∧x.index<(p.links.length:Int)) (
 some (bif (bif (decide (0≤x.index))then(decide (x.index<0))else false)then(!decide (((at' p.links x.index.toNat).kind)=1))else false))
 else
 bif (decide (x.deed=6))then
 bM (gB [((bif (decide (0≤x.index))then(decide (x.index<(p.links.length:Int)))else false),true)]=true→(0:Int)≤x.index∧x.index<(p.links.length:Int)) (
 some (bif (bif (decide (0≤x.index))then(decide (x.index<(p.links.length:Int)))else false)then(!decide (((at' p.links x.index.toNat).kind)=1))else false))
 else
 bif (decide (x.deed=3))then
 bif (decide (x.deed=3))then
 some (bif (decide (0≤x.index))then(decide (x.index<p.buses))else false)
 else
 bif (decide (x.deed=7))then
 bif (decide (x.deed=7))then
 some (bif (decide (0≤x.index))then(decide (x.index<(p.sources.length:Int)))else false)
 else
 bM (gB [((bif (decide (0≤x.index))then(decide (x.index<0))else false),true)]=true→(0:Int)≤x.index∧x.index<(p.links.length:Int)) (
 some (bif (bif (decide (0≤x.index))then(decide (x.index<0))else false)then(!decide (((at' p.links x.index.toNat).kind)=1))else false))
 else
 bif (decide (x.deed=8))then
 some (bif (decide (0≤x.index))then(decide (x.index<(p.sources.length:Int)))else false)
 else
 bM (gB [((bif (decide (0≤x.index))then(decide (x.index<0))else false),true)]=true→(0:Int)≤x.index∧x.index<(p.links.length:Int)) (
 some (bif (bif (decide (0≤x.index))then(decide (x.index<0))else false)then(!decide (((at' p.links x.index.toNat).kind)=1))else false))
 else
 bif (decide (x.deed=4))then
 some (bif (decide (0≤x.index))then(decide (x.index<p.buses))else false)
 else
 bif (decide (x.deed=7))then
 bif (decide (x.deed=7))then
 some (bif (decide (0≤x.index))then(decide (x.index<(p.sources.length:Int)))else false)
 else
 bM (gB [((bif (decide (0≤x.index))then(decide (x.index<0))else false),true)]=true→(0:Int)≤x.index∧x.index<(p.links.length:Int)) (
 some (bif (bif (decide (0≤x.index))then(decide (x.index<0))else false)then(!decide (((at' p.links x.index.toNat).kind)=1))else false))
 else
 bif (decide (x.deed=8))then
 some (bif (decide (0≤x.index))then(decide (x.index<(p.sources.length:Int)))else false)
 else
 bM (gB [((bif (decide (0≤x.index))then(decide (x.index<0))else false),true)]=true→(0:Int)≤x.index∧x.index<(p.links.length:Int)) (
 some (bif (bif (decide (0≤x.index))then(decide (x.index<0))else false)then(!decide (((at' p.links x.index.toNat).kind)=1))else false))
def rJ (x:aJ) (x1:Int) (x11:(List Source)) (x12:(List Link)) (x13:(List aT)):Option Bool:=
 (sK (⟨x1,x11,x12,x13⟩:au) x).bind fun r_=>
 some (!r_)
def vw (s_:(List aJ)) (f_:Int) (f_1:(List Source)) (f_2:(List Link)) (f_3:(List aT)):Int→Option (cZ Int (Ex Unit Int)):=
 fun t8=>
 bif (decide (t8<(s_.length:Int)))then
 (rJ (at' s_ t8.toNat) f_ f_1 f_2 f_3).bind fun r_=>
 bM ((0:Int)≤t8∧t8<(s_.length:Int)) (
 bif r_ then
 some (.done (.ret t8))
 else
 some (.next (IntKind.wrap .i64 (t8+1))))
 else
 some (.done (.brk ()))
def oG (s_:(List aJ)) (f_:Int) (f_1:(List Source)) (f_2:(List Link)) (f_3:(List aT)):Option Int:=
 Option.bind (aV (vw s_ f_ f_1 f_2 f_3) FUEL (0)) fun o=>match o with
 | .ret v=>some v
 | .brk _=>
 some (-1)
def mr (s_:(List aJ)) (f_:Int) (f_1:(List Source)) (f_2:(List Link)) (f_3:(List aT)):Option Bool:=
 (oG s_ f_ f_1 f_2 f_3).bind fun r_=>
 some (decide (0≤r_))
def oN (l:(List aJ)) (x1:Int) (x11:(List Source)) (x12:(List Link)) (x13:(List aT)):Option Bool:=
 (bif gB [((decide ((l.length:Int)≤24)),true)]then mr l x1 x11 x12 x13 else some default).bind fun r_=>
 some (bif (decide ((l.length:Int)≤24))then(!r_)else false)
def yI (p:au) (t:Task):Option Bool:=
 (oW t.fed (p.racks.length:Int)).bind fun r_=>
 (bif gB [(r_,true)]then oW t.crew p.buses else some default).bind fun r_1=>
 (bif gB [((bif r_ then r_1 else false),true)]then oN t.allowed p.buses p.sources p.links p.racks else some default).bind fun r_2=>
 (bif gB [((bif (bif r_ then r_1 else false)then r_2 else false),true)]then oN t.goal p.buses p.sources p.links p.racks else some default).bind fun r_3=>
 some (bif (bif (bif r_ then r_1 else false)then r_2 else false)then r_3 else false)
def mU (p:au) (s_:State):Option (Int × (List Source) × (List Link) × (List aT) × (List Bool) × (List Bool) × (List Bool) × (List Bool) × (List Bool) × (List Bool) × (List Bool)):=
 some (p.buses,p.sources,p.links,p.racks,s_.closed,s_.locked,s_.badLink,s_.on_,s_.badSource,s_.earthed,s_.badBus)
def fE (g:bL):Int→Option (cZ Int (Ex Unit Int)):=
 fun x1=>
 bif (!((bR bA x1 g.head).isSome))then
 some (.done (.ret x1))
 else
 some (.next ((bR bA x1 g.head).getD 0))
def dO (g:bL) (x:Int):Option Int:=
 Option.bind (aV (fE g) FUEL (x)) fun o=>match o with
 | .ret v=>some v
 | .brk _=>none
def jB (g:bL) (a:Int) (b:Int):Option (List (Int × Int)):=
 (dO g a).bind fun r_=>
 (dO g b).bind fun r_1=>
 bif (!decide (r_=r_1))then
 some (dL bA r_ r_1 g.head)
 else
 some g.head
def kT (x22:Int) (x221:Int) (x222:Int) (x223:Int) (x224:Int) (x225:(List lW)) (o_:bL):Option bL:=
 (jB o_ x22 x221).bind fun r_=>
 some (⟨r_⟩:bL)
def dZ (x12:(List Link)) (x2:(List Bool)) (x22:(List Bool)) (x26:(List Bool)):((List (Int × Int)) × Int)→Option (cZ ((List (Int × Int)) × Int) (Ex (List (Int × Int)) bL)):=
 fun zz=>match zz with
 |(o50,t9)=>
 bif (decide (t9<(x12.length:Int)))then
 bM ((0:Int)≤t9∧t9<(x12.length:Int)) (
 bif (bif (bif (bif (at' x2 t9.toNat)then(!(at' x22 t9.toNat))else false)then(!(at' x26 (((at' x12 t9.toNat).a).toNat)))else false)then(!(at' x26 (((at' x12 t9.toNat).b).toNat)))else false)then
 (kT ((at' x12 t9.toNat).a) ((at' x12 t9.toNat).b) ((at' x12 t9.toNat).kind) ((at' x12 t9.toNat).most) ((at' x12 t9.toNat).ohm) ((at' x12 t9.toNat).trip) (⟨o50⟩:bL)).bind fun r_=>
 bM (((0:Int)≤t9∧t9<(x2.length:Int))∧(gB [((at' x2 t9.toNat),true)]=true→(0:Int)≤t9∧t9<(x22.length:Int))∧(gB [((bif (at' x2 t9.toNat)then(!(at' x22 t9.toNat))else false),true)]=true→(0:Int)≤(at' x12 t9.toNat).a∧(at' x12 t9.toNat).a<(x26.length:Int))∧(gB [((bif (bif (at' x2 t9.toNat)then(!(at' x22 t9.toNat))else false)then(!(at' x26 (((at' x12 t9.toNat).a).toNat)))else false),true)]=true→(0:Int)≤(at' x12 t9.toNat).b∧(at' x12 t9.toNat).b<(x26.length:Int))) (
 some (.next (r_.head,(IntKind.wrap .i64 (t9+1)))))
 else
 bM (((0:Int)≤t9∧t9<(x2.length:Int))∧(gB [((at' x2 t9.toNat),true)]=true→(0:Int)≤t9∧t9<(x22.length:Int))∧(gB [((bif (at' x2 t9.toNat)then(!(at' x22 t9.toNat))else false),true)]=true→(0:Int)≤(at' x12 t9.toNat).a∧(at' x12 t9.toNat).a<(x26.length:Int))∧(gB [((bif (bif (at' x2 t9.toNat)then(!(at' x22 t9.toNat))else false)then(!(at' x26 (((at' x12 t9.toNat).a).toNat)))else false),true)]=true→(0:Int)≤(at' x12 t9.toNat).b∧(at' x12 t9.toNat).b<(x26.length:Int))) (
 some (.next (o50,(IntKind.wrap .i64 (t9+1))))))
 else
 some (.done (.brk o50))
def kS (x1:Int) (x11:(List Source)) (x12:(List Link)) (x13:(List aT)) (x2:(List Bool)) (x21:(List Bool)) (x22:(List Bool)) (x23:(List Bool)) (x24:(List Bool)) (x25:(List Bool)) (x26:(List Bool)) (o_:bL):Option bL:=
 Option.bind (aV (dZ x12 x2 x22 x26) FUEL (o_.head,0)) fun o=>match o with
 | .ret v=>some v
 | .brk o501=>
 some (⟨o501⟩:bL)
def gL (p:au) (s_:State) (r_1:bL):((List aS) × (List (Int × Int)) × Int)→Option (cZ ((List aS) × (List (Int × Int)) × Int) (Ex ((List aS) × (List (Int × Int))) (List aS))):=
 fun zz=>match zz with
 |(out,at_,t32)=>
 bif (decide (t32<p.buses))then
 bM ((0:Int)≤t32∧t32<(s_.badBus.length:Int)) (
 bif (at' s_.badBus t32.toNat)then
 some (.next (out,at_,(IntKind.wrap .i64 (t32+1))))
 else
 (dO r_1 t32).bind fun r_2=>
 bif (!((bR bA r_2 at_).isSome))then
 bM (((out.length+[(⟨([]:List Int),([]:List Int)⟩:aS)].length)*48≤140737488355328)∧(out.length+[(⟨([]:List Int),([]:List Int)⟩:aS)].length≤4611686018427387904)) (
 bM (((0:Int)≤((bR bA r_2 (dL bA r_2 (out.length:Int) at_)).getD 0)∧((bR bA r_2 (dL bA r_2 (out.length:Int) at_)).getD 0)<((out++[(⟨([]:List Int),([]:List Int)⟩:aS)]).length:Int))∧((((at' (out++[(⟨([]:List Int),([]:List Int)⟩:aS)]) (((bR bA r_2 (dL bA r_2 (out.length:Int) at_)).getD 0).toNat)).buses).length+[t32].length)*8≤140737488355328)∧(((at' (out++[(⟨([]:List Int),([]:List Int)⟩:aS)]) (((bR bA r_2 (dL bA r_2 (out.length:Int) at_)).getD 0).toNat)).buses).length+[t32].length≤4611686018427387904)) (
 some (.next (((out++[(⟨([]:List Int),([]:List Int)⟩:aS)]).set (((bR bA r_2 (dL bA r_2 (out.length:Int) at_)).getD 0).toNat) (⟨(((at' (out++[(⟨([]:List Int),([]:List Int)⟩:aS)]) (((bR bA r_2 (dL bA r_2 (out.length:Int) at_)).getD 0).toNat)).buses)++[t32]),(at' (out++[(⟨([]:List Int),([]:List Int)⟩:aS)]) (((bR bA r_2 (dL bA r_2 (out.length:Int) at_)).getD 0).toNat)).sources⟩:aS)),(dL bA r_2 (out.length:Int) at_),(IntKind.wrap .i64 (t32+1))))))
 else
 bM (((0:Int)≤((bR bA r_2 at_).getD 0)∧((bR bA r_2 at_).getD 0)<(out.length:Int))∧((((at' out (((bR bA r_2 at_).getD 0).toNat)).buses).length+[t32].length)*8≤140737488355328)∧(((at' out (((bR bA r_2 at_).getD 0).toNat)).buses).length+[t32].length≤4611686018427387904)) (
 some (.next ((out.set (((bR bA r_2 at_).getD 0).toNat) (⟨(((at' out (((bR bA r_2 at_).getD 0).toNat)).buses)++[t32]),(at' out (((bR bA r_2 at_).getD 0).toNat)).sources⟩:aS)),at_,(IntKind.wrap .i64 (t32+1))))))
 else
 some (.done (.brk (out,at_)))
def gK (p:au) (s_:State) (r_1:bL) (at_1:(List (Int × Int))):((List aS) × Int)→Option (cZ ((List aS) × Int) (Ex (List aS) (List aS))):=
 fun zz=>match zz with
 |(out2,t78)=>
 bif (decide (t78<(p.sources.length:Int)))then
 bM ((0:Int)≤t78∧t78<(p.sources.length:Int)) (
 bM (((0:Int)≤t78∧t78<(s_.on_.length:Int))∧(gB [((at' s_.on_ t78.toNat),true)]=true→(0:Int)≤t78∧t78<(s_.badSource.length:Int))∧(gB [((bif (at' s_.on_ t78.toNat)then(!(at' s_.badSource t78.toNat))else false),true)]=true→(0:Int)≤(at' p.sources t78.toNat).bus∧(at' p.sources t78.toNat).bus<(s_.badBus.length:Int))) (
 bif (bif (bif (at' s_.on_ t78.toNat)then(!(at' s_.badSource t78.toNat))else false)then(!(at' s_.badBus (((at' p.sources t78.toNat).bus).toNat)))else false)then
 (dO r_1 ((at' p.sources t78.toNat).bus)).bind fun r_3=>
 bM (((0:Int)≤((bR bA r_3 at_1).getD 0)∧((bR bA r_3 at_1).getD 0)<(out2.length:Int))∧((((at' out2 (((bR bA r_3 at_1).getD 0).toNat)).sources).length+[t78].length)*8≤140737488355328)∧(((at' out2 (((bR bA r_3 at_1).getD 0).toNat)).sources).length+[t78].length≤4611686018427387904)) (
 some (.next ((out2.set (((bR bA r_3 at_1).getD 0).toNat) (⟨(at' out2 (((bR bA r_3 at_1).getD 0).toNat)).buses,(((at' out2 (((bR bA r_3 at_1).getD 0).toNat)).sources)++[t78])⟩:aS)),(IntKind.wrap .i64 (t78+1)))))
 else
 some (.next (out2,(IntKind.wrap .i64 (t78+1))))))
 else
 some (.done (.brk out2))
def ja (p:au) (s_:State):Option (List aS):=
 (mU p s_).bind fun r_=>
 (kS r_.1 r_.2.1 r_.2.2.1 r_.2.2.2.1 r_.2.2.2.2.1 r_.2.2.2.2.2.1 r_.2.2.2.2.2.2.1 r_.2.2.2.2.2.2.2.1 r_.2.2.2.2.2.2.2.2.1 r_.2.2.2.2.2.2.2.2.2.1 r_.2.2.2.2.2.2.2.2.2.2 (⟨([]:(List (Int × Int)))⟩:bL)).bind fun r_1=>
 Option.bind (aV (gL p s_ r_1) FUEL (([]:List aS),([]:(List (Int × Int))),0)) fun o=>match o with
 | .ret v=>some v
 | .brk (out1,at_1)=>
 Option.bind (aV (gK p s_ r_1 at_1) FUEL (out1,0)) fun o=>match o with
 | .ret v=>some v
 | .brk out3=>
 some out3
def jS (r_1:(List aS)) (t25:Int):((List Bool) × Int)→Option (cZ ((List Bool) × Int) (Ex (List Bool) (cZ ((List Bool) × Int) (Ex (List Bool) ((List Bool) × Int))))):=
 fun zz=>match zz with
 |(out2,t32)=>
 bif (decide (t32<(((at' r_1 t25.toNat).buses).length:Int)))then
 bM ((0:Int)≤t32∧t32<(((at' r_1 t25.toNat).buses).length:Int)) (
 bM ((0:Int)≤(at' ((at' r_1 t25.toNat).buses) t32.toNat)∧(at' ((at' r_1 t25.toNat).buses) t32.toNat)<(out2.length:Int)) (
 some (.next ((out2.set ((at' ((at' r_1 t25.toNat).buses) t32.toNat).toNat) (decide (0<(((at' r_1 t25.toNat).sources).length:Int)))),(IntKind.wrap .i64 (t32+1))))))
 else
 some (.done (.brk out2))
def jW (r_1:(List aS)):((List Bool) × Int)→Option (cZ ((List Bool) × Int) (Ex (List Bool) ((List Bool) × Int))):=
 fun zz=>match zz with
 |(out,t25)=>
 bif (decide (t25<(r_1.length:Int)))then
 bM ((0:Int)≤t25∧t25<(r_1.length:Int)) (
 Option.bind (aV (jS r_1 t25) FUEL (out,0)) fun o=>match o with
 | .ret v=>some v
 | .brk out3=>
 some (.next (out3,(IntKind.wrap .i64 (t25+1)))))
 else
 some (.done (.brk out))
def iD (p:au) (s_:State):Option ((List Bool) × Int):=
 (dI p s_).bind fun r_=>
 bif (!decide (r_=0))then
 some (([]:List Bool),r_)
 else
 bM (((0:Int)≤p.buses)∧((1:Int)*p.buses≤281474976710656)∧((p.buses:Int)≤9223372036854775807)) (
 (ja p s_).bind fun r_1=>
 Option.bind (aV (jW r_1) FUEL ((List.replicate p.buses.toNat (false:Bool)),0)) fun o=>match o with
 | .ret v=>some v
 | .brk out1=>
 some (out1,0))
def jG (p:au) (r_:((List Bool) × Int)):((List aY) × Int)→Option (cZ ((List aY) × Int) (Ex (List aY) ((List aY) × Int))):=
 fun zz=>match zz with
 |(out,t26)=>
 bif (decide (t26<(p.racks.length:Int)))then
 bM ((0:Int)≤t26∧t26<(p.racks.length:Int)) (
 bM (gB [((decide (0≤(((at' p.racks t26.toNat).feeds).e0))),true)]=true→(0:Int)≤((at' p.racks t26.toNat).feeds).e0∧((at' p.racks t26.toNat).feeds).e0<(r_.1.length:Int)) (
 bM (gB [((decide (0≤(((at' p.racks t26.toNat).feeds).e1))),true)]=true→(0:Int)≤((at' p.racks t26.toNat).feeds).e1∧((at' p.racks t26.toNat).feeds).e1<(r_.1.length:Int)) (
 bM (((out.length+[(⟨(bif (decide (0≤(((at' p.racks t26.toNat).feeds).e0)))then(at' r_.1 ((((at' p.racks t26.toNat).feeds).e0).toNat))else false),(bif (decide (0≤(((at' p.racks t26.toNat).feeds).e1)))then(at' r_.1 ((((at' p.racks t26.toNat).feeds).e1).toNat))else false)⟩:aY)].length)*2≤140737488355328)∧(out.length+[(⟨(bif (decide (0≤(((at' p.racks t26.toNat).feeds).e0)))then(at' r_.1 ((((at' p.racks t26.toNat).feeds).e0).toNat))else false),(bif (decide (0≤(((at' p.racks t26.toNat).feeds).e1)))then(at' r_.1 ((((at' p.racks t26.toNat).feeds).e1).toNat))else false)⟩:aY)].length≤4611686018427387904)) (
 some (.next ((out++[(⟨(bif (decide (0≤(((at' p.racks t26.toNat).feeds).e0)))then(at' r_.1 ((((at' p.racks t26.toNat).feeds).e0).toNat))else false),(bif (decide (0≤(((at' p.racks t26.toNat).feeds).e1)))then(at' r_.1 ((((at' p.racks t26.toNat).feeds).e1).toNat))else false)⟩:aY)]),(IntKind.wrap .i64 (t26+1))))))))
 else
 some (.done (.brk out))
def nD (p:au) (s_:State):Option ((List aY) × Int):=
 (iD p s_).bind fun r_=>
 bif (!decide (r_.2=0))then
 some (([]:List aY),r_.2)
 else
 Option.bind (aV (jG p r_) FUEL (([]:List aY),0)) fun o=>match o with
 | .ret v=>some v
 | .brk out1=>
 some (out1,0)
def eZ (x y:ah):Int:=if x.e0<y.e0 then -1 else if y.e0<x.e0 then 1 else if x.e1<y.e1 then -1 else if y.e1<x.e1 then 1 else 0
def tV (s:(List ah)):Option (List ah):=match s with
 |[]=>some []
 |x::xs=>bif decide ((x::xs).length<4611686018427387904)then some ((x::xs).mergeSort fun x y=> !decide (eZ y x<0))else none
def Bu (p:au) (r_1:(List aS)) (t24:Int) (t31:Int):((List ah) × Int)→Option (cZ ((List ah) × Int) (Ex (List ah) (cZ ((List ah) × Int) (Ex (List ah) (cZ ((List ah) × Int) (Ex (List ah) ((List ah) × Int))))))):=
 fun zz=>match zz with
 |(out4,t42)=>
 bif (decide (t42<(((((at' r_1 t24.toNat).sources).length - ((IntKind.wrap .i64 (t31+1)).toNat)):Nat):Int)))then
 bM ((0:Int)≤t42∧t42<((((at' r_1 t24.toNat).sources).drop ((IntKind.wrap .i64 (t31+1)).toNat)).length:Int)) (
 bM (((0:Int)≤(at' ((at' r_1 t24.toNat).sources) t31.toNat)∧(at' ((at' r_1 t24.toNat).sources) t31.toNat)<(p.sources.length:Int))∧(gB [((decide (((at' p.sources ((at' ((at' r_1 t24.toNat).sources) t31.toNat).toNat)).sync)=0)),false)]=true→(0:Int)≤(at' ((at' r_1 t24.toNat).sources) t31.toNat)∧(at' ((at' r_1 t24.toNat).sources) t31.toNat)<(p.sources.length:Int))∧(gB [((decide (((at' p.sources ((at' ((at' r_1 t24.toNat).sources) t31.toNat).toNat)).sync)=0)),false)]=true→(0:Int)≤(at' (((at' r_1 t24.toNat).sources).drop ((IntKind.wrap .i64 (t31+1)).toNat)) t42.toNat)∧(at' (((at' r_1 t24.toNat).sources).drop ((IntKind.wrap .i64 (t31+1)).toNat)) t42.toNat)<(p.sources.length:Int))) (
 bif (bif (decide (((at' p.sources ((at' ((at' r_1 t24.toNat).sources) t31.toNat).toNat)).sync)=0))then true else(!decide (((at' p.sources ((at' ((at' r_1 t24.toNat).sources) t31.toNat).toNat)).sync)=((at' p.sources ((at' (((at' r_1 t24.toNat).sources).drop ((IntKind.wrap .i64 (t31+1)).toNat)) t42.toNat).toNat)).sync))))then
 bM (((out4.length+[(⟨(at' ((at' r_1 t24.toNat).sources) t31.toNat),(at' (((at' r_1 t24.toNat).sources).drop ((IntKind.wrap .i64 (t31+1)).toNat)) t42.toNat)⟩:ah)].length)*16≤140737488355328)∧(out4.length+[(⟨(at' ((at' r_1 t24.toNat).sources) t31.toNat),(at' (((at' r_1 t24.toNat).sources).drop ((IntKind.wrap .i64 (t31+1)).toNat)) t42.toNat)⟩:ah)].length≤4611686018427387904)) (
 some (.next ((out4++[(⟨(at' ((at' r_1 t24.toNat).sources) t31.toNat),(at' (((at' r_1 t24.toNat).sources).drop ((IntKind.wrap .i64 (t31+1)).toNat)) t42.toNat)⟩:ah)]),(IntKind.wrap .i64 (t42+1)))))
 else
 some (.next (out4,(IntKind.wrap .i64 (t42+1))))))
 else
 some (.done (.brk out4))
def BB (p:au) (r_1:(List aS)) (t24:Int):((List ah) × Int)→Option (cZ ((List ah) × Int) (Ex (List ah) (cZ ((List ah) × Int) (Ex (List ah) ((List ah) × Int))))):=
 fun zz=>match zz with
 |(out2,t31)=>
 bif (decide (t31<(((at' r_1 t24.toNat).sources).length:Int)))then
 bM ((0:Int)≤t31∧t31<(((at' r_1 t24.toNat).sources).length:Int)) (
 bM ((0:Int)≤(IntKind.wrap .i64 (t31+1))∧(IntKind.wrap .i64 (t31+1))≤(((at' r_1 t24.toNat).sources).length:Int)) (
 Option.bind (aV (Bu p r_1 t24 t31) FUEL (out2,0)) fun o=>match o with
 | .ret v=>some v
 | .brk out5=>
 some (.next (out5,(IntKind.wrap .i64 (t31+1))))))
 else
 some (.done (.brk out2))
def Aw (p:au) (r_1:(List aS)):((List ah) × Int)→Option (cZ ((List ah) × Int) (Ex (List ah) ((List ah) × Int))):=
 fun zz=>match zz with
 |(out,t24)=>
 bif (decide (t24<(r_1.length:Int)))then
 bM ((0:Int)≤t24∧t24<(r_1.length:Int)) (
 Option.bind (aV (BB p r_1 t24) FUEL (out,0)) fun o=>match o with
 | .ret v=>some v
 | .brk out3=>
 some (.next (out3,(IntKind.wrap .i64 (t24+1)))))
 else
 some (.done (.brk out))
def xu (p:au) (s_:State):Option ((List ah) × Int):=
 (dI p s_).bind fun r_=>
 bif (!decide (r_=0))then
 some (([]:List ah),r_)
 else
 (ja p s_).bind fun r_1=>
 Option.bind (aV (Aw p r_1) FUEL (([]:List ah),0)) fun o=>match o with
 | .ret v=>some v
 | .brk out1=>
 (tV out1).bind fun r_2=>
 bM (out1.length=r_2.length) (
 some (r_2,0))
def xD (r_:Int) (x1:(List aY)):Option Bool:=
 bM (((0:Int)≤r_∧r_<(x1.length:Int))∧(gB [((!((at' x1 r_.toNat).e0)),true)]=true→(0:Int)≤r_∧r_<(x1.length:Int))) (
 some (bif (!((at' x1 r_.toNat).e0))then(!((at' x1 r_.toNat).e1))else false))
def qL (s_:(List Int)) (f_:(List aY)):Int→Option (cZ Int (Ex Unit Int)):=
 fun t8=>
 bif (decide (t8<(s_.length:Int)))then
 (xD (at' s_ t8.toNat) f_).bind fun r_=>
 bM ((0:Int)≤t8∧t8<(s_.length:Int)) (
 bif r_ then
 some (.done (.ret t8))
 else
 some (.next (IntKind.wrap .i64 (t8+1))))
 else
 some (.done (.brk ()))
def lZ (s_:(List Int)) (f_:(List aY)):Option Int:=
 Option.bind (aV (qL s_ f_) FUEL (0)) fun o=>match o with
 | .ret v=>some v
 | .brk _=>
 some (-1)
def kI (s_:(List Int)) (f_:(List aY)):Option Bool:=
 (lZ s_ f_).bind fun r_=>
 some (decide (0≤r_))
def EA (p:au) (s_:State) (b:Int):Int→Option (cZ Int (Ex Unit Bool)):=
 fun t22=>
 bif (decide (t22<(p.sources.length:Int)))then
 bM ((0:Int)≤t22∧t22<(p.sources.length:Int)) (
 bM (gB [((decide (((at' p.sources t22.toNat).bus)=b)),true)]=true→(0:Int)≤t22∧t22<(s_.on_.length:Int)) (
 bif (bif (decide (((at' p.sources t22.toNat).bus)=b))then(at' s_.on_ t22.toNat)else false)then
 some (.done (.ret false))
 else
 some (.next (IntKind.wrap .i64 (t22+1)))))
 else
 some (.done (.brk ()))
def EH (p:au) (s_:State) (t:Task) (b:Int):Int→Option (cZ Int (Ex Unit Bool)):=
 fun t42=>
 bif (decide (t42<(p.links.length:Int)))then
 bM ((0:Int)≤t42∧t42<(p.links.length:Int)) (
 (bif gB [((bif (!decide (((at' p.links t42.toNat).a)=b))then(!decide (((at' p.links t42.toNat).b)=b))else false),false)]then eD t.crew (IntKind.wrap .i64 ((IntKind.wrap .i64 (((at' p.links t42.toNat).a)+((at' p.links t42.toNat).b))) - b))else some default).bind fun r_=>
 bif (bif (bif (!decide (((at' p.links t42.toNat).a)=b))then(!decide (((at' p.links t42.toNat).b)=b))else false)then true else r_)then
 some (.next (IntKind.wrap .i64 (t42+1)))
 else
 bM ((gB [((decide (((at' p.links t42.toNat).kind)=1)),false)]=true→(0:Int)≤t42∧t42<(s_.closed.length:Int))∧(gB [((bif (decide (((at' p.links t42.toNat).kind)=1))then true else(at' s_.closed t42.toNat)),false)]=true→(0:Int)≤t42∧t42<(s_.locked.length:Int))) (
 bif (bif (bif (decide (((at' p.links t42.toNat).kind)=1))then true else(at' s_.closed t42.toNat))then true else(!(at' s_.locked t42.toNat)))then
 some (.done (.ret false))
 else
 some (.next (IntKind.wrap .i64 (t42+1)))))
 else
 some (.done (.brk ()))
def Cj (p:au) (s_:State) (t:Task) (b:Int):Option Bool:=
 bM ((0:Int)≤b∧b<(s_.earthed.length:Int)) (
 bif (!(at' s_.earthed b.toNat))then
 some false
 else
 Option.bind (aV (EA p s_ b) FUEL (0)) fun o=>match o with
 | .ret v=>some v
 | .brk _=>
 Option.bind (aV (EH p s_ t b) FUEL (0)) fun o=>match o with
 | .ret v=>some v
 | .brk _=>
 some true)
def xq (b:Int) (x1:Int) (x11:(List Source)) (x12:(List Link)) (x13:(List aT)) (x2:(List Bool)) (x21:(List Bool)) (x22:(List Bool)) (x23:(List Bool)) (x24:(List Bool)) (x25:(List Bool)) (x26:(List Bool)) (x3:(List Int)) (x31:(List Int)) (x32:(List aJ)) (x33:(List aJ)):Option Bool:=
 (Cj (⟨x1,x11,x12,x13⟩:au) (⟨x2,x21,x22,x23,x24,x25,x26⟩:State) (⟨x3,x31,x32,x33⟩:Task) b).bind fun r_=>
 some (!r_)
def qx (s_:(List Int)) (f_:Int) (f_1:(List Source)) (f_2:(List Link)) (f_3:(List aT)) (f_4:(List Bool)) (f_5:(List Bool)) (f_6:(List Bool)) (f_7:(List Bool)) (f_8:(List Bool)) (f_9:(List Bool)) (f_10:(List Bool)) (f_11:(List Int)) (f_12:(List Int)) (f_13:(List aJ)) (f_14:(List aJ)):Int→Option (cZ Int (Ex Unit Int)):=
 fun t8=>
 bif (decide (t8<(s_.length:Int)))then
 (xq (at' s_ t8.toNat) f_ f_1 f_2 f_3 f_4 f_5 f_6 f_7 f_8 f_9 f_10 f_11 f_12 f_13 f_14).bind fun r_=>
 bM ((0:Int)≤t8∧t8<(s_.length:Int)) (
 bif r_ then
 some (.done (.ret t8))
 else
 some (.next (IntKind.wrap .i64 (t8+1))))
 else
 some (.done (.brk ()))
def l9 (s_:(List Int)) (f_:Int) (f_1:(List Source)) (f_2:(List Link)) (f_3:(List aT)) (f_4:(List Bool)) (f_5:(List Bool)) (f_6:(List Bool)) (f_7:(List Bool)) (f_8:(List Bool)) (f_9:(List Bool)) (f_10:(List Bool)) (f_11:(List Int)) (f_12:(List Int)) (f_13:(List aJ)) (f_14:(List aJ)):Option Int:=
 Option.bind (aV (qx s_ f_ f_1 f_2 f_3 f_4 f_5 f_6 f_7 f_8 f_9 f_10 f_11 f_12 f_13 f_14) FUEL (0)) fun o=>match o with
 | .ret v=>some v
 | .brk _=>
 some (-1)
def kL (s_:(List Int)) (f_:Int) (f_1:(List Source)) (f_2:(List Link)) (f_3:(List aT)) (f_4:(List Bool)) (f_5:(List Bool)) (f_6:(List Bool)) (f_7:(List Bool)) (f_8:(List Bool)) (f_9:(List Bool)) (f_10:(List Bool)) (f_11:(List Int)) (f_12:(List Int)) (f_13:(List aJ)) (f_14:(List aJ)):Option Bool:=
 (l9 s_ f_ f_1 f_2 f_3 f_4 f_5 f_6 f_7 f_8 f_9 f_10 f_11 f_12 f_13 f_14).bind fun r_=>
 some (decide (0≤r_))
def DK (s_:State) (r_:((List Bool) × Int)):Int→Option (cZ Int (Ex Unit Int)):=
 fun t23=>
 bif (decide (t23<(r_.1.length:Int)))then
 bM ((0:Int)≤t23∧t23<(r_.1.length:Int)) (
 bM (gB [((at' r_.1 t23.toNat),true)]=true→(0:Int)≤t23∧t23<(s_.earthed.length:Int)) (
 bif (bif (at' r_.1 t23.toNat)then(at' s_.earthed t23.toNat)else false)then
 some (.done (.ret 40))
 else
 some (.next (IntKind.wrap .i64 (t23+1)))))
 else
 some (.done (.brk ()))
def uR (p:au) (s_:State) (t:Task):Option Int:=
 (iD p s_).bind fun r_=>
 Option.bind (aV (DK s_ r_) FUEL (0)) fun o=>match o with
 | .ret v=>some v
 | .brk _=>
 (xu p s_).bind fun r_1=>
 bif (decide (0<(r_1.1.length:Int)))then
 some 41
 else
 (nD p s_).bind fun r_2=>
 (kI t.fed r_2.1).bind fun r_3=>
 bif r_3 then
 some 42
 else
 (kL t.crew p.buses p.sources p.links p.racks s_.closed s_.locked s_.badLink s_.on_ s_.badSource s_.earthed s_.badBus t.fed t.crew t.allowed t.goal).bind fun r_4=>
 bif r_4 then
 some 45
 else
 some 0
def Ar (p:au) (s_:State) (t:Task):Option Int:=
 (dI p s_).bind fun r_=>
 bif (!decide (r_=0))then
 some r_
 else
 (yI p t).bind fun r_1=>
 bif (!r_1)then
 some 1
 else
 (uR p s_ t).bind fun r_2=>
 some r_2
def yJ (s_:(List Bool)) (s_nn:Bool):Option (List Bool):=
 bif (!s_nn)then
 some ([]:List Bool)
 else
 bM (((([]:List Bool).length+s_.length)*1≤140737488355328)∧(([]:List Bool).length+s_.length≤4611686018427387904)) (
 some (([]:List Bool)++s_))
def aj (s:(List Bool)):Option (List Bool):=yJ s true
def yP (s_:State):Option State:=
 bM ((0:Int)≤0∧0<(7:Int)) (
 (aj s_.closed).bind fun r_=>
 bM ((0:Int)≤1∧1<(7:Int)) (
 (aj s_.locked).bind fun r_1=>
 bM ((0:Int)≤2∧2<(7:Int)) (
 (aj s_.badLink).bind fun r_2=>
 bM ((0:Int)≤3∧3<(7:Int)) (
 (aj s_.on_).bind fun r_3=>
 bM ((0:Int)≤4∧4<(7:Int)) (
 (aj s_.badSource).bind fun r_4=>
 bM ((0:Int)≤5∧5<(7:Int)) (
 (aj s_.earthed).bind fun r_5=>
 bM ((0:Int)≤6∧6<(7:Int)) (
 (aj s_.badBus).bind fun r_6=>
 some (⟨r_,r_1,r_2,r_3,r_4,r_5,r_6⟩:State))))))))
def o5:Option Unit:=
 some ()
def pR (state:State):Option Unit:=
 some ()
def pV (state:State):Option Unit:=
 some ()
def pQ (state:State):Option Unit:=
 some ()
def qa (state:State):Option Unit:=
 some ()
def wQ (s_:State) (x:aJ):Option State:=
 (o5).bind fun r_=>
 bif (bA x.deed 1)then
 bM ((0:Int)≤0∧0<(7:Int)) (
 (aj s_.closed).bind fun r_1=>
 bM ((0:Int)≤1∧1<(7:Int)) (
 (aj s_.locked).bind fun r_2=>
 bM ((0:Int)≤2∧2<(7:Int)) (
 (aj s_.badLink).bind fun r_3=>
 bM ((0:Int)≤3∧3<(7:Int)) (
 (aj s_.on_).bind fun r_4=>
 bM ((0:Int)≤4∧4<(7:Int)) (
 (aj s_.badSource).bind fun r_5=>
 bM ((0:Int)≤5∧5<(7:Int)) (
 (aj s_.earthed).bind fun r_6=>
 bM ((0:Int)≤6∧6<(7:Int)) (
 (aj s_.badBus).bind fun r_7=>
 (pR (⟨r_1,r_2,r_3,r_4,r_5,r_6,r_7⟩:State)).bind fun r_8=>
 bM ((0:Int)≤x.index∧x.index<(r_1.length:Int)) (
 some (⟨(r_1.set x.index.toNat false),r_2,r_3,r_4,r_5,r_6,r_7⟩:State)))))))))
 else
 bif (bA x.deed 2)then
 bM ((0:Int)≤0∧0<(7:Int)) (
 (aj s_.closed).bind fun r_9=>
 bM ((0:Int)≤1∧1<(7:Int)) (
 (aj s_.locked).bind fun r_10=>
 bM ((0:Int)≤2∧2<(7:Int)) (
 (aj s_.badLink).bind fun r_11=>
 bM ((0:Int)≤3∧3<(7:Int)) (
 (aj s_.on_).bind fun r_12=>
 bM ((0:Int)≤4∧4<(7:Int)) (
 (aj s_.badSource).bind fun r_13=>
 bM ((0:Int)≤5∧5<(7:Int)) (
 (aj s_.earthed).bind fun r_14=>
 bM ((0:Int)≤6∧6<(7:Int)) (
 (aj s_.badBus).bind fun r_15=>
 (pR (⟨r_9,r_10,r_11,r_12,r_13,r_14,r_15⟩:State)).bind fun r_16=>
 bM ((0:Int)≤x.index∧x.index<(r_9.length:Int)) (
 some (⟨(r_9.set x.index.toNat true),r_10,r_11,r_12,r_13,r_14,r_15⟩:State)))))))))
 else
 bif (bA x.deed 3)then
 bM ((0:Int)≤0∧0<(7:Int)) (
 (aj s_.closed).bind fun r_17=>
 bM ((0:Int)≤1∧1<(7:Int)) (
 (aj s_.locked).bind fun r_18=>
 bM ((0:Int)≤2∧2<(7:Int)) (
 (aj s_.badLink).bind fun r_19=>
 bM ((0:Int)≤3∧3<(7:Int)) (
 (aj s_.on_).bind fun r_20=>
 bM ((0:Int)≤4∧4<(7:Int)) (
 (aj s_.badSource).bind fun r_21=>
 bM ((0:Int)≤5∧5<(7:Int)) (
 (aj s_.earthed).bind fun r_22=>
 bM ((0:Int)≤6∧6<(7:Int)) (
 (aj s_.badBus).bind fun r_23=>
 (pV (⟨r_17,r_18,r_19,r_20,r_21,r_22,r_23⟩:State)).bind fun r_24=>
 bM ((0:Int)≤x.index∧x.index<(r_22.length:Int)) (
 some (⟨r_17,r_18,r_19,r_20,r_21,(r_22.set x.index.toNat true),r_23⟩:State)))))))))
 else
 bif (bA x.deed 4)then
 bM ((0:Int)≤0∧0<(7:Int)) (
 (aj s_.closed).bind fun r_25=>
 bM ((0:Int)≤1∧1<(7:Int)) (
 (aj s_.locked).bind fun r_26=>
 bM ((0:Int)≤2∧2<(7:Int)) (
 (aj s_.badLink).bind fun r_27=>
 bM ((0:Int)≤3∧3<(7:Int)) (
 (aj s_.on_).bind fun r_28=>
 bM ((0:Int)≤4∧4<(7:Int)) (
 (aj s_.badSource).bind fun r_29=>
 bM ((0:Int)≤5∧5<(7:Int)) (
 (aj s_.earthed).bind fun r_30=>
 bM ((0:Int)≤6∧6<(7:Int)) (
 (aj s_.badBus).bind fun r_31=>
 (pV (⟨r_25,r_26,r_27,r_28,r_29,r_30,r_31⟩:State)).bind fun r_32=>
 bM ((0:Int)≤x.index∧x.index<(r_30.length:Int)) (
 some (⟨r_25,r_26,r_27,r_28,r_29,(r_30.set x.index.toNat false),r_31⟩:State)))))))))
 else
 bif (bA x.deed 5)then
 bM ((0:Int)≤0∧0<(7:Int)) (
 (aj s_.closed).bind fun r_33=>
 bM ((0:Int)≤1∧1<(7:Int)) (
 (aj s_.locked).bind fun r_34=>
 bM ((0:Int)≤2∧2<(7:Int)) (
 (aj s_.badLink).bind fun r_35=>
 bM ((0:Int)≤3∧3<(7:Int)) (
 (aj s_.on_).bind fun r_36=>
 bM ((0:Int)≤4∧4<(7:Int)) (
 (aj s_.badSource).bind fun r_37=>
 bM ((0:Int)≤5∧5<(7:Int)) (
 (aj s_.earthed).bind fun r_38=>
 bM ((0:Int)≤6∧6<(7:Int)) (
 (aj s_.badBus).bind fun r_39=>
 (pQ (⟨r_33,r_34,r_35,r_36,r_37,r_38,r_39⟩:State)).bind fun r_40=>
 bM ((0:Int)≤x.index∧x.index<(r_34.length:Int)) (
 some (⟨r_33,(r_34.set x.index.toNat true),r_35,r_36,r_37,r_38,r_39⟩:State)))))))))
 else
 bif (bA x.deed 6)then
 bM ((0:Int)≤0∧0<(7:Int)) (
 (aj s_.closed).bind fun r_41=>
 bM ((0:Int)≤1∧1<(7:Int)) (
 (aj s_.locked).bind fun r_42=>
 bM ((0:Int)≤2∧2<(7:Int)) (
 (aj s_.badLink).bind fun r_43=>
 bM ((0:Int)≤3∧3<(7:Int)) (
 (aj s_.on_).bind fun r_44=>
 bM ((0:Int)≤4∧4<(7:Int)) (
 (aj s_.badSource).bind fun r_45=>
 bM ((0:Int)≤5∧5<(7:Int)) (
 (aj s_.earthed).bind fun r_46=>
 bM ((0:Int)≤6∧6<(7:Int)) (
 (aj s_.badBus).bind fun r_47=>
 (pQ (⟨r_41,r_42,r_43,r_44,r_45,r_46,r_47⟩:State)).bind fun r_48=>
 bM ((0:Int)≤x.index∧x.index<(r_42.length:Int)) (
 some (⟨r_41,(r_42.set x.index.toNat false),r_43,r_44,r_45,r_46,r_47⟩:State)))))))))
 else
 bif (bA x.deed 7)then
 bM ((0:Int)≤0∧0<(7:Int)) (
 (aj s_.closed).bind fun r_49=>
 bM ((0:Int)≤1∧1<(7:Int)) (
 (aj s_.locked).bind fun r_50=>
 bM ((0:Int)≤2∧2<(7:Int)) (
 (aj s_.badLink).bind fun r_51=>
 bM ((0:Int)≤3∧3<(7:Int)) (
 (aj s_.on_).bind fun r_52=>
 bM ((0:Int)≤4∧4<(7:Int)) (
 (aj s_.badSource).bind fun r_53=>
 bM ((0:Int)≤5∧5<(7:Int)) (
 (aj s_.earthed).bind fun r_54=>
 bM ((0:Int)≤6∧6<(7:Int)) (
 (aj s_.badBus).bind fun r_55=>
 (qa (⟨r_49,r_50,r_51,r_52,r_53,r_54,r_55⟩:State)).bind fun r_56=>
 bM ((0:Int)≤x.index∧x.index<(r_52.length:Int)) (
 some (⟨r_49,r_50,r_51,(r_52.set x.index.toNat true),r_53,r_54,r_55⟩:State)))))))))
 else
 bif (bA x.deed 8)then
 bM ((0:Int)≤0∧0<(7:Int)) (
 (aj s_.closed).bind fun r_57=>
 bM ((0:Int)≤1∧1<(7:Int)) (
 (aj s_.locked).bind fun r_58=>
 bM ((0:Int)≤2∧2<(7:Int)) (
 (aj s_.badLink).bind fun r_59=>
 bM ((0:Int)≤3∧3<(7:Int)) (
 (aj s_.on_).bind fun r_60=>
 bM ((0:Int)≤4∧4<(7:Int)) (
 (aj s_.badSource).bind fun r_61=>
 bM ((0:Int)≤5∧5<(7:Int)) (
 (aj s_.earthed).bind fun r_62=>
 bM ((0:Int)≤6∧6<(7:Int)) (
 (aj s_.badBus).bind fun r_63=>
 (qa (⟨r_57,r_58,r_59,r_60,r_61,r_62,r_63⟩:State)).bind fun r_64=>
 bM ((0:Int)≤x.index∧x.index<(r_60.length:Int)) (
 some (⟨r_57,r_58,r_59,(r_60.set x.index.toNat false),r_61,r_62,r_63⟩:State)))))))))
 else
 bM ((0:Int)≤0∧0<(7:Int)) (
 (aj s_.closed).bind fun r_65=>
 bM ((0:Int)≤1∧1<(7:Int)) (
 (aj s_.locked).bind fun r_66=>
 bM ((0:Int)≤2∧2<(7:Int)) (
 (aj s_.badLink).bind fun r_67=>
 bM ((0:Int)≤3∧3<(7:Int)) (
 (aj s_.on_).bind fun r_68=>
 bM ((0:Int)≤4∧4<(7:Int)) (
 (aj s_.badSource).bind fun r_69=>
 bM ((0:Int)≤5∧5<(7:Int)) (
 (aj s_.earthed).bind fun r_70=>
 bM ((0:Int)≤6∧6<(7:Int)) (
 (aj s_.badBus).bind fun r_71=>
 none)))))))
def ru:Option Unit:=
 some ()
def uG (p:au) (s_:State) (x:aJ):Option Bool:=
 (sK p x).bind fun r_=>
 some (!r_)
def mQ (s_:(List Bool)) (s_1:(List Bool)) (s_2:(List Bool)) (s_3:(List Bool)) (s_4:(List Bool)) (s_5:(List Bool)) (s_6:(List Bool)):Option ((List Bool) × (List Bool) × (List Bool) × (List Bool) × (List Bool) × (List Bool) × (List Bool)):=
 some (s_,s_1,s_2,s_3,s_4,s_5,s_6)
def mO (s_:(List Bool)) (s_1:(List Bool)) (s_2:(List Bool)) (s_3:(List Bool)) (s_4:(List Bool)) (s_5:(List Bool)) (s_6:(List Bool)):Option ((List Bool) × (List Bool) × (List Bool) × (List Bool) × (List Bool) × (List Bool) × (List Bool)):=
 some (s_,s_1,s_2,s_3,s_4,s_5,s_6)
def mW (s_:(List Bool)) (s_1:(List Bool)) (s_2:(List Bool)) (s_3:(List Bool)) (s_4:(List Bool)) (s_5:(List Bool)) (s_6:(List Bool)):Option ((List Bool) × (List Bool) × (List Bool) × (List Bool) × (List Bool) × (List Bool) × (List Bool)):=
 some (s_,s_1,s_2,s_3,s_4,s_5,s_6)
def mM (s_:(List Bool)) (s_1:(List Bool)) (s_2:(List Bool)) (s_3:(List Bool)) (s_4:(List Bool)) (s_5:(List Bool)) (s_6:(List Bool)):Option ((List Bool) × (List Bool) × (List Bool) × (List Bool) × (List Bool) × (List Bool) × (List Bool)):=
 some (s_,s_1,s_2,s_3,s_4,s_5,s_6)
def Aj (s_:State) (x:aJ):Option Bool:=
 (o5).bind fun r_=>
 bif (bA x.deed 1)then
 (mQ s_.closed s_.locked s_.badLink s_.on_ s_.badSource s_.earthed s_.badBus).bind fun r_1=>
 bM ((0:Int)≤x.index∧x.index<(r_1.1.length:Int)) (
 some ((at' r_1.1 x.index.toNat)==false))
 else
 bif (bA x.deed 2)then
 (mQ s_.closed s_.locked s_.badLink s_.on_ s_.badSource s_.earthed s_.badBus).bind fun r_2=>
 bM ((0:Int)≤x.index∧x.index<(r_2.1.length:Int)) (
 some ((at' r_2.1 x.index.toNat)==true))
 else
 bif (bA x.deed 3)then
 (mO s_.closed s_.locked s_.badLink s_.on_ s_.badSource s_.earthed s_.badBus).bind fun r_3=>
 bM ((0:Int)≤x.index∧x.index<(r_3.2.2.2.2.2.1.length:Int)) (
 some ((at' r_3.2.2.2.2.2.1 x.index.toNat)==true))
 else
 bif (bA x.deed 4)then
 (mO s_.closed s_.locked s_.badLink s_.on_ s_.badSource s_.earthed s_.badBus).bind fun r_4=>
 bM ((0:Int)≤x.index∧x.index<(r_4.2.2.2.2.2.1.length:Int)) (
 some ((at' r_4.2.2.2.2.2.1 x.index.toNat)==false))
 else
 bif (bA x.deed 5)then
 (mW s_.closed s_.locked s_.badLink s_.on_ s_.badSource s_.earthed s_.badBus).bind fun r_5=>
 bM ((0:Int)≤x.index∧x.index<(r_5.2.1.length:Int)) (
 some ((at' r_5.2.1 x.index.toNat)==true))
 else
 bif (bA x.deed 6)then
 (mW s_.closed s_.locked s_.badLink s_.on_ s_.badSource s_.earthed s_.badBus).bind fun r_6=>
 bM ((0:Int)≤x.index∧x.index<(r_6.2.1.length:Int)) (
 some ((at' r_6.2.1 x.index.toNat)==false))
 else
 bif (bA x.deed 7)then
 (mM s_.closed s_.locked s_.badLink s_.on_ s_.badSource s_.earthed s_.badBus).bind fun r_7=>
 bM ((0:Int)≤x.index∧x.index<(r_7.2.2.2.1.length:Int)) (
 some ((at' r_7.2.2.2.1 x.index.toNat)==true))
 else
 bif (bA x.deed 8)then
 (mM s_.closed s_.locked s_.badLink s_.on_ s_.badSource s_.earthed s_.badBus).bind fun r_8=>
 bM ((0:Int)≤x.index∧x.index<(r_8.2.2.2.1.length:Int)) (
 some ((at' r_8.2.2.2.1 x.index.toNat)==false))
 else
 none
def uI (p:au) (s_:State) (x:aJ):Option Bool:=
 (Aj s_ x).bind fun r_=>
 some r_
def lD (x:aJ):Option Bool:=
 some (bif (decide (x.deed=1))then true else(decide (x.deed=2)))
def Cb (x:aJ):Option Bool:=
 some (bif (decide (x.deed=7))then true else(decide (x.deed=8)))
def tC (p:au) (s_:State) (x:aJ):Option Bool:=
 (lD x).bind fun r_=>
 (bif gB [((bif r_ then(at' s_.badLink x.index.toNat)else false),false)]then Cb x else some default).bind fun r_1=>
 bM ((gB [(r_,true)]=true→(0:Int)≤x.index∧x.index<(s_.badLink.length:Int))∧(gB [(r_1,true),((bif r_ then(at' s_.badLink x.index.toNat)else false),false)]=true→(0:Int)≤x.index∧x.index<(s_.badSource.length:Int))) (
 some (bif (bif r_ then(at' s_.badLink x.index.toNat)else false)then true else(bif r_1 then(at' s_.badSource x.index.toNat)else false)))
def uq (p:au) (s_:State) (x:aJ):Option Bool:=
 (lD x).bind fun r_=>
 bM (gB [(r_,true)]=true→(0:Int)≤x.index∧x.index<(s_.locked.length:Int)) (
 some (bif r_ then(at' s_.locked x.index.toNat)else false))
def p9 (p:au) (s_:State):Option ((List aS) × Int):=
 (dI p s_).bind fun r_=>
 bif (!decide (r_=0))then
 some (([]:List aS),r_)
 else
 (ja p s_).bind fun r_1=>
 some (r_1,0)
def wz (x:aS) (x1:Int):Option Bool:=
 (eD x.buses x1).bind fun r_=>
 some r_
def uJ (s_:(List aS)) (f_:Int):Int→Option (cZ Int (Ex Unit Int)):=
 fun t8=>
 bif (decide (t8<(s_.length:Int)))then
 (wz (at' s_ t8.toNat) f_).bind fun r_=>
 bM ((0:Int)≤t8∧t8<(s_.length:Int)) (
 bif r_ then
 some (.done (.ret t8))
 else
 some (.next (IntKind.wrap .i64 (t8+1))))
 else
 some (.done (.brk ()))
def oF (s_:(List aS)) (f_:Int):Option Int:=
 Option.bind (aV (uJ s_ f_) FUEL (0)) fun o=>match o with
 | .ret v=>some v
 | .brk _=>
 some (-1)
def kW (b:Int) (x1:(List aS)):Option Int:=
 (oF x1 b).bind fun r_=>
 some r_
def Dm (p:au) (s_:State) (i:Int):Option Bool:=
 bM ((0:Int)≤i∧i<(s_.closed.length:Int)) (
 bif (at' s_.closed i.toNat)then
 (wQ s_ (⟨1,i⟩:aJ)).bind fun r_=>
 (p9 p r_).bind fun r_1=>
 (kW ((at' p.links i.toNat).a) r_1.1).bind fun r_2=>
 (kW ((at' p.links i.toNat).b) r_1.1).bind fun r_3=>
 bM ((0:Int)≤i∧i<(p.links.length:Int)) (
 bM ((gB [((bif (bif (decide (0≤r_2))then(decide (0≤r_3))else false)then(!decide (r_2=r_3))else false),true)]=true→(0:Int)≤r_2∧r_2<(r_1.1.length:Int))∧(gB [((bif (bif (decide (0≤r_2))then(decide (0≤r_3))else false)then(!decide (r_2=r_3))else false),true)]=true→(0:Int)≤r_3∧r_3<(r_1.1.length:Int))) (
 some (bif (bif (bif (decide (0≤r_2))then(decide (0≤r_3))else false)then(!decide (r_2=r_3))else false)then(decide (0<(IntKind.wrap .i64 ((((at' r_1.1 r_2.toNat).sources).length:Int)+(((at' r_1.1 r_3.toNat).sources).length:Int)))))else false)))
 else
 (p9 p s_).bind fun r_4=>
 (kW ((at' p.links i.toNat).a) r_4.1).bind fun r_5=>
 (kW ((at' p.links i.toNat).b) r_4.1).bind fun r_6=>
 bM ((0:Int)≤i∧i<(p.links.length:Int)) (
 bM ((gB [((bif (bif (decide (0≤r_5))then(decide (0≤r_6))else false)then(!decide (r_5=r_6))else false),true)]=true→(0:Int)≤r_5∧r_5<(r_4.1.length:Int))∧(gB [((bif (bif (decide (0≤r_5))then(decide (0≤r_6))else false)then(!decide (r_5=r_6))else false),true)]=true→(0:Int)≤r_6∧r_6<(r_4.1.length:Int))) (
 some (bif (bif (bif (decide (0≤r_5))then(decide (0≤r_6))else false)then(!decide (r_5=r_6))else false)then(decide (0<(IntKind.wrap .i64 ((((at' r_4.1 r_5.toNat).sources).length:Int)+(((at' r_4.1 r_6.toNat).sources).length:Int)))))else false))))
def tK (p:au) (s_:State) (x:aJ):Option Bool:=
 (lD x).bind fun r_=>
 (bif gB [((bif r_ then(decide (((at' p.links x.index.toNat).kind)=2))else false),true)]then Dm p s_ x.index else some default).bind fun r_1=>
 bM (gB [(r_,true)]=true→(0:Int)≤x.index∧x.index<(p.links.length:Int)) (
 some (bif (bif r_ then(decide (((at' p.links x.index.toNat).kind)=2))else false)then r_1 else false))
def GU (p:au) (s_:State) (x:aJ):Option (State × Int):=
 (ru).bind fun r_=>
 (uG p s_ x).bind fun r_1=>
 bif r_1 then
 some ((⟨([]:List Bool),([]:List Bool),([]:List Bool),([]:List Bool),([]:List Bool),([]:List Bool),([]:List Bool)⟩:State),1)
 else
 (uI p s_ x).bind fun r_2=>
 bif r_2 then
 some ((⟨([]:List Bool),([]:List Bool),([]:List Bool),([]:List Bool),([]:List Bool),([]:List Bool),([]:List Bool)⟩:State),46)
 else
 (tC p s_ x).bind fun r_3=>
 bif r_3 then
 some ((⟨([]:List Bool),([]:List Bool),([]:List Bool),([]:List Bool),([]:List Bool),([]:List Bool),([]:List Bool)⟩:State),47)
 else
 (uq p s_ x).bind fun r_4=>
 bif r_4 then
 some ((⟨([]:List Bool),([]:List Bool),([]:List Bool),([]:List Bool),([]:List Bool),([]:List Bool),([]:List Bool)⟩:State),43)
 else
 (tK p s_ x).bind fun r_5=>
 bif r_5 then
 some ((⟨([]:List Bool),([]:List Bool),([]:List Bool),([]:List Bool),([]:List Bool),([]:List Bool),([]:List Bool)⟩:State),44)
 else
 (wQ s_ x).bind fun r_6=>
 some (r_6,0)
def BL (p:au) (s_:State) (t:Task) (x:aJ):Option (State × Int):=
 (GU p s_ x).bind fun r_=>
 bif (decide (r_.2=0))then
 (uR p r_.1 t).bind fun r_1=>
 some (r_.1,r_1)
 else
 some (r_.1,r_.2)
def Cz (p:au) (t:Task) (l:(List aJ)):((List Bool) × (List Bool) × (List Bool) × (List Bool) × (List Bool) × (List Bool) × (List Bool) × Int)→Option (cZ ((List Bool) × (List Bool) × (List Bool) × (List Bool) × (List Bool) × (List Bool) × (List Bool) × Int) (Ex ((List Bool) × (List Bool) × (List Bool) × (List Bool) × (List Bool) × (List Bool) × (List Bool)) (Int × State × Int))):=
 fun zz=>match zz with
 |(s0,s1,s2,s3,s4,s5,s6,t31)=>
 bif (decide (t31<(l.length:Int)))then
 bM ((0:Int)≤t31∧t31<(l.length:Int)) (
 (BL p (⟨s0,s1,s2,s3,s4,s5,s6⟩:State) t (at' l t31.toNat)).bind fun r_2=>
 bif (!decide (r_2.2=0))then
 some (.done (.ret (t31,(⟨([]:List Bool),([]:List Bool),([]:List Bool),([]:List Bool),([]:List Bool),([]:List Bool),([]:List Bool)⟩:State),r_2.2)))
 else
 some (.next (r_2.1.closed,r_2.1.locked,r_2.1.badLink,r_2.1.on_,r_2.1.badSource,r_2.1.earthed,r_2.1.badBus,(IntKind.wrap .i64 (t31+1)))))
 else
 some (.done (.brk (s0,s1,s2,s3,s4,s5,s6)))
def yg (p:au) (s_:State) (t:Task) (l:(List aJ)):Option (Int × State × Int):=
 (Ar p s_ t).bind fun r_=>
 bif (!decide (r_=0))then
 some (0,(⟨([]:List Bool),([]:List Bool),([]:List Bool),([]:List Bool),([]:List Bool),([]:List Bool),([]:List Bool)⟩:State),r_)
 else
 bif (decide (256<(l.length:Int)))then
 some (0,(⟨([]:List Bool),([]:List Bool),([]:List Bool),([]:List Bool),([]:List Bool),([]:List Bool),([]:List Bool)⟩:State),2)
 else
 (yP s_).bind fun r_1=>
 Option.bind (aV (Cz p t l) FUEL (r_1.closed,r_1.locked,r_1.badLink,r_1.on_,r_1.badSource,r_1.earthed,r_1.badBus,0)) fun o=>match o with
 | .ret v=>some v
 | .brk (s01,s11,s21,s31,s41,s51,s61)=>
 some ((l.length:Int),(⟨s01,s11,s21,s31,s41,s51,s61⟩:State),0)
def uy:Option Bool:=
 (Em).bind fun r_=>
 (jd r_.1 r_.2).bind fun r_1=>
 (jF r_.1 r_.2 0).bind fun r_2=>
 (yg r_.1 r_.2 (⟨[0],([]:List Int),([]:List aJ),([]:List aJ)⟩:Task) [(⟨1,0⟩:aJ)]).bind fun r_3=>
 (bif gB [((bif (bif (decide (r_1.2.2=0))then(decide (r_2.2=0))else false)then(decide (r_3.2.2=42))else false),true)]then j6 r_1.1 else some default).bind fun r_4=>
 some (bif (bif (bif (bif (decide (r_1.2.2=0))then(decide (r_2.2=0))else false)then(decide (r_3.2.2=42))else false)then(decide (r_4=5))else false)then(decide (r_2.1=1))else false)
def wT (x:Int) (n:Int):Option Int:=
 bif (decide (n<1))then
 some 0
 else
 bM (n≠(0:Int)) (
 bif (decide ((Int.tmod x n)<0))then
 some (IntKind.wrap .i64 ((Int.tmod x n)+n))
 else
 some (Int.tmod x n))
def nT (l:(List Source)):Option (List Source):=
 bM ((l.length*40≤140737488355328)∧(l.length≤4611686018427387904)) (
 some l)
def p8 (l:(List lW)):Option (List lW):=
 bM ((l.length*16≤140737488355328)∧(l.length≤4611686018427387904)) (
 some l)
def nM (x:Link):Option Link:=
 (p8 x.trip).bind fun r_=>
 some (⟨x.a,x.b,x.kind,x.most,x.ohm,r_⟩:Link)
def gJ (l:(List Link)):((List Link) × Int)→Option (cZ ((List Link) × Int) (Ex (List Link) (List Link))):=
 fun zz=>match zz with
 |(out,i)=>
 bif (decide (i<(l.length:Int)))then
 (nM (at' l i.toNat)).bind fun r_=>
 bM (((0:Int)≤i∧i<(l.length:Int))∧((out.length+[r_].length)*64≤140737488355328)∧(out.length+[r_].length≤4611686018427387904)) (
 some (.next ((out++[r_]),(IntKind.wrap .i64 (i+1)))))
 else
 some (.done (.brk out))
def pU (l:(List Link)):Option (List Link):=
 Option.bind (aV (gJ l) FUEL (([]:List Link),0)) fun o=>match o with
 | .ret v=>some v
 | .brk out1=>
 some out1
def qc (l:(List aT)):Option (List aT):=
 bM ((l.length*32≤140737488355328)∧(l.length≤4611686018427387904)) (
 some l)
def mJ (x:au):Option au:=
 (nT x.sources).bind fun r_=>
 (pU x.links).bind fun r_1=>
 (qc x.racks).bind fun r_2=>
 some (⟨x.buses,r_,r_1,r_2⟩:au)
def mE (p:au) (s_:State) (nG:Int):Option Bool:=
 (Ba p).bind fun r_=>
 (bif gB [((bif r_ then true else(decide ((p.racks.length:Int)=0))),false)]then dI p s_ else some default).bind fun r_1=>
 bif (bif (bif r_ then true else(decide ((p.racks.length:Int)=0)))then true else(!decide (r_1=0)))then
 (uy).bind fun r_2=>
 some r_2
 else
 (wT nG (p.racks.length:Int)).bind fun r_3=>
 (nD p s_).bind fun r_4=>
 (jF p s_ r_3).bind fun r_5=>
 (mJ p).bind fun r_6=>
 bM ((0:Int)≤r_3∧r_3<(p.racks.length:Int)) (
 bM ((0:Int)≤0∧0<([(⟨((at' p.racks r_3.toNat).feeds),(at' p.racks r_3.toNat).power,(at' p.racks r_3.toNat).paths⟩:aT)].length:Int)) (
 (jd (⟨r_6.buses,r_6.sources,r_6.links,([(⟨((at' p.racks r_3.toNat).feeds),(at' p.racks r_3.toNat).power,(at' p.racks r_3.toNat).paths⟩:aT)].set 0 (⟨((at' [(⟨((at' p.racks r_3.toNat).feeds),(at' p.racks r_3.toNat).power,(at' p.racks r_3.toNat).paths⟩:aT)] 0).feeds),1,(at' [(⟨((at' p.racks r_3.toNat).feeds),(at' p.racks r_3.toNat).power,(at' p.racks r_3.toNat).paths⟩:aT)] 0).paths⟩:aT))⟩:au) s_).bind fun r_7=>
 bif (bif (bif (bif (!decide (r_4.2=0))then true else(!decide (r_5.2=0)))then true else(!decide (r_7.2.2=0)))then true else(!decide ((r_4.1.length:Int)=(p.racks.length:Int))))then
 some false
 else
 bM (((0:Int)≤r_3∧r_3<(r_4.1.length:Int))∧(gB [((at' r_4.1 r_3.toNat).e0,false)]=true→(0:Int)≤r_3∧r_3<(r_4.1.length:Int))) (
 (j6 r_7.1).bind fun r_8=>
 (bif gB [((bif ((bif (at' r_4.1 r_3.toNat).e0 then true else(at' r_4.1 r_3.toNat).e1)==(decide (r_8=1)))then((bif (at' r_4.1 r_3.toNat).e0 then true else(at' r_4.1 r_3.toNat).e1)==(decide (0<r_5.1)))else false),true)]then uy else some default).bind fun r_9=>
 some (bif (bif ((bif (at' r_4.1 r_3.toNat).e0 then true else(at' r_4.1 r_3.toNat).e1)==(decide (r_8=1)))then((bif (at' r_4.1 r_3.toNat).e0 then true else(at' r_4.1 r_3.toNat).e1)==(decide (0<r_5.1)))else false)then r_9 else false))))
end Sg
