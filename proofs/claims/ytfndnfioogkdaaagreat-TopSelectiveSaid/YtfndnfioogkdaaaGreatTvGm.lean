import Derived.Test.YtfndnfioogkdaaaGreatTvLd
set_option linter.all false
namespace Sg
open Go
structure Source where
 bus:Int
 kind:Int
 power:Int
 sync:Int
 fq:Int
instance:Inhabited Source:=⟨⟨default,default,default,default,default⟩⟩
def Source.cell (x:Source):Nat→DV
 |0=>(.int .i64 x.bus)
 |1=>(.int .i64 x.kind)
 |2=>(.int .i64 x.power)
 |3=>(.int .i64 x.sync)
 |4=>(.int .i64 x.fq)
 |_=> .nilp
structure qQ where
 amps:Int
 millis:Int
instance:Inhabited qQ:=⟨⟨default,default⟩⟩
def qQ.cell (x:qQ):Nat→DV
 |0=>(.int .i64 x.amps)
 |1=>(.int .i64 x.millis)
 |_=> .nilp
structure Link where
 a:Int
 b:Int
 kind:Int
 most:Int
 fq:Int
 trip:(List qQ)
instance:Inhabited Link:=⟨⟨default,default,default,default,default,default⟩⟩
def Link.cell (x:Link):Nat→DV
 |0=>(.int .i64 x.a)
 |1=>(.int .i64 x.b)
 |2=>(.int .i64 x.kind)
 |3=>(.int .i64 x.most)
 |4=>(.int .i64 x.fq)
 |5=>(bJ none 2 qQ.cell x.trip)
 |_=> .nilp
structure ai where
 e0:Int
 e1:Int
instance:Inhabited ai:=⟨⟨default,default⟩⟩
def ai.cell (x:ai):Nat→DV
 |0=>(.int .i64 x.e0)
 |1=>(.int .i64 x.e1)
 |_=> .nilp
structure aU where
 feeds:ai
 power:Int
 paths:Int
instance:Inhabited aU:=⟨⟨default,default,default⟩⟩
def aU.cell (x:aU):Nat→DV
 |0=>(.int .i64 x.feeds.e0)
 |1=>(.int .i64 x.feeds.e1)
 |2=>(.int .i64 x.power)
 |3=>(.int .i64 x.paths)
 |_=> .nilp
structure au where
 buses:Int
 sources:(List Source)
 links:(List Link)
 racks:(List aU)
instance:Inhabited au:=⟨⟨default,default,default,default⟩⟩
def au.cell (x:au):Nat→DV
 |0=>(.int .i64 x.buses)
 |1=>(bJ none 5 Source.cell x.sources)
 |2=>(bJ none 6 Link.cell x.links)
 |3=>(bJ none 4 aU.cell x.racks)
 |_=> .nilp
structure State where
 closed:(List Bool)
 locked:(List Bool)
 badLink:(List Bool)
 on_:(List Bool)
 badSource:(List Bool)
 earthed:(List Bool)
 badBus:(List Bool)
instance:Inhabited State:=⟨⟨default,default,default,default,default,default,default⟩⟩
def State.cell (x:State):Nat→DV
 |0=>(bJ none 1 ah x.closed)
 |1=>(bJ none 1 ah x.locked)
 |2=>(bJ none 1 ah x.badLink)
 |3=>(bJ none 1 ah x.on_)
 |4=>(bJ none 1 ah x.badSource)
 |5=>(bJ none 1 ah x.earthed)
 |6=>(bJ none 1 ah x.badBus)
 |_=> .nilp
structure dI where
 l:(List Bool)
 n:Int
instance:Inhabited dI:=⟨⟨default,default⟩⟩
def dI.cell (x:dI):Nat→DV
 |0=>(bJ none 1 ah x.l)
 |1=>(.int .i64 x.n)
 |_=> .nilp
structure Part where
 kind:Int
 index:Int
instance:Inhabited Part:=⟨⟨default,default⟩⟩
def Part.cell (x:Part):Nat→DV
 |0=>(.int .i64 x.kind)
 |1=>(.int .i64 x.index)
 |_=> .nilp
structure aK where
 e0:(List (Int × (List Int)))
 e1:(List (Int × (List Int)))
instance:Inhabited aK:=⟨⟨default,default⟩⟩
def aK.cell (x:aK):Nat→DV
 |0=> .nilp
 |1=> .nilp
 |_=> .nilp
structure Graph where
 parts:(List Part)
 aA:aK
instance:Inhabited Graph:=⟨⟨default,default⟩⟩
def Graph.cell (x:Graph):Nat→DV
 |0=>(bJ none 2 Part.cell x.parts)
 |1=> .nilp
 |2=> .nilp
 |_=> .nilp
structure dK where
 to_:Int
 left:Int
instance:Inhabited dK:=⟨⟨default,default⟩⟩
def dK.cell (x:dK):Nat→DV
 |0=>(.int .i64 x.to_)
 |1=>(.int .i64 x.left)
 |_=> .nilp
structure Network where
 aA:(List dK)
 from_:(List (List Int))
instance:Inhabited Network:=⟨⟨default,default⟩⟩
def Network.cell (x:Network):Nat→DV
 |0=>(bJ none 2 dK.cell x.aA)
 |1=>(bJ none 1 (Ae 1 (aC .i64)) x.from_)
 |_=> .nilp
structure bQ where
 l:(List ai)
instance:Inhabited bQ:=⟨⟨default⟩⟩
def bQ.cell (x:bQ):Nat→DV
 |0=>(bJ none 2 ai.cell x.l)
 |_=> .nilp
structure gV where
 sources:(List Int)
 links:(List Int)
 racks:(List ai)
instance:Inhabited gV:=⟨⟨default,default,default⟩⟩
def gV.cell (x:gV):Nat→DV
 |0=>(bJ none 1 (aC .i64) x.sources)
 |1=>(bJ none 1 (aC .i64) x.links)
 |2=>(bJ none 2 ai.cell x.racks)
 |_=> .nilp
structure aJ where
 deed:Int
 index:Int
instance:Inhabited aJ:=⟨⟨default,default⟩⟩
def aJ.cell (x:aJ):Nat→DV
 |0=>(.int .i64 x.deed)
 |1=>(.int .i64 x.index)
 |_=> .nilp
structure Task where
 fed:(List Int)
 crew:(List Int)
 allowed:(List aJ)
 goal:(List aJ)
instance:Inhabited Task:=⟨⟨default,default,default,default⟩⟩
def Task.cell (x:Task):Nat→DV
 |0=>(bJ none 1 (aC .i64) x.fed)
 |1=>(bJ none 1 (aC .i64) x.crew)
 |2=>(bJ none 2 aJ.cell x.allowed)
 |3=>(bJ none 2 aJ.cell x.goal)
 |_=> .nilp
structure bR where
 head:(List (Int × Int))
instance:Inhabited bR:=⟨⟨default⟩⟩
def bR.cell (x:bR):Nat→DV
 |0=> .nilp
 |_=> .nilp
structure aT where
 buses:(List Int)
 sources:(List Int)
instance:Inhabited aT:=⟨⟨default,default⟩⟩
def aT.cell (x:aT):Nat→DV
 |0=>(bJ none 1 (aC .i64) x.buses)
 |1=>(bJ none 1 (aC .i64) x.sources)
 |_=> .nilp
structure aZ where
 e0:Bool
 e1:Bool
instance:Inhabited aZ:=⟨⟨default,default⟩⟩
def aZ.cell (x:aZ):Nat→DV
 |0=>(.bool x.e0)
 |1=>(.bool x.e1)
 |_=> .nilp
structure Way where
 there:Bool
 fq:Int
 links:(List Int)
instance:Inhabited Way:=⟨⟨default,default,default⟩⟩
def Way.cell (x:Way):Nat→DV
 |0=>(.bool x.there)
 |1=>(.int .i64 x.fq)
 |2=>(bJ none 1 (aC .i64) x.links)
 |_=> .nilp
structure Short where
 source:Int
 fq:Int
 amps:Int
 links:(List Int)
instance:Inhabited Short:=⟨⟨default,default,default,default⟩⟩
def Short.cell (x:Short):Nat→DV
 |0=>(.int .i64 x.source)
 |1=>(.int .i64 x.fq)
 |2=>(.int .i64 x.amps)
 |3=>(bJ none 1 (aC .i64) x.links)
 |_=> .nilp
structure Event where
 millis:Int
 link:Int
instance:Inhabited Event:=⟨⟨default,default⟩⟩
def Event.cell (x:Event):Nat→DV
 |0=>(.int .i64 x.millis)
 |1=>(.int .i64 x.link)
 |_=> .nilp
structure cK where
 events:(List Event)
 cleared:Bool
 millis:Int
 energy:Int
 state:State
instance:Inhabited cK:=⟨⟨default,default,default,default,default⟩⟩
def cK.cell (x:cK):Nat→DV
 |0=>(bJ none 2 Event.cell x.events)
 |1=>(.bool x.cleared)
 |2=>(.int .i64 x.millis)
 |3=>(.int .i64 x.energy)
 |4=>(bJ none 1 ah x.state.closed)
 |5=>(bJ none 1 ah x.state.locked)
 |6=>(bJ none 1 ah x.state.badLink)
 |7=>(bJ none 1 ah x.state.on_)
 |8=>(bJ none 1 ah x.state.badSource)
 |9=>(bJ none 1 ah x.state.earthed)
 |10=>(bJ none 1 ah x.state.badBus)
 |_=> .nilp
structure Machine where
 clearing:cK
 p:au
 bus:Int
 amps:(List Int)
 total:Int
 since:(List (Int × Int))
 now:Int
instance:Inhabited Machine:=⟨⟨default,default,default,default,default,default,default⟩⟩
def Machine.cell (x:Machine):Nat→DV
 |0=>(bJ none 2 Event.cell x.clearing.events)
 |1=>(.bool x.clearing.cleared)
 |2=>(.int .i64 x.clearing.millis)
 |3=>(.int .i64 x.clearing.energy)
 |4=>(bJ none 1 ah x.clearing.state.closed)
 |5=>(bJ none 1 ah x.clearing.state.locked)
 |6=>(bJ none 1 ah x.clearing.state.badLink)
 |7=>(bJ none 1 ah x.clearing.state.on_)
 |8=>(bJ none 1 ah x.clearing.state.badSource)
 |9=>(bJ none 1 ah x.clearing.state.earthed)
 |10=>(bJ none 1 ah x.clearing.state.badBus)
 |11=>(.int .i64 x.p.buses)
 |12=>(bJ none 5 Source.cell x.p.sources)
 |13=>(bJ none 6 Link.cell x.p.links)
 |14=>(bJ none 4 aU.cell x.p.racks)
 |15=>(.int .i64 x.bus)
 |16=>(bJ none 1 (aC .i64) x.amps)
 |17=>(.int .i64 x.total)
 |18=> .nilp
 |19=>(.int .i64 x.now)
 |_=> .nilp
def aT.ev (x:aT):Nat→EV
 |0=> .row 3 1 x.buses.length (ay (aC .i64) x.buses)
 |1=> .row 3 1 x.sources.length (ay (aC .i64) x.sources)
 |_=> .d .nilp
instance:DecidableEq ai:=fun a b=>if h:a.e0=b.e0∧a.e1=b.e1 then .isTrue (match a,b,h with|⟨_,_⟩,⟨_,_⟩,⟨h0,h1⟩=>by cases h0;cases h1;rfl)else .isFalse fun q=>h (by cases q;exact⟨rfl,rfl⟩)
def BU (x:List Int):Nat→EV
 |0=> .row 3 1 x.length (ay (aC .i64) x)
 |_=> .d .nilp
def Dc (p:au):Option Bool:=
 some (bif (bif (decide (60<(p.sources.length:Int)))then true else(decide (60<(p.links.length:Int))))then true else(decide (60<(p.racks.length:Int))))
def bD (n:Int) (first:Int) (last:Int):Option Bool:=
 some (bif (decide (first≤n))then(decide (n≤last))else false)
def vz (p:au):Option (Int × (List Source) × (List Link) × (List aU)):=
 some (p.buses,p.sources,p.links,p.racks)
def yj (p:au):Option (Int × (List Source) × (List Link) × (List aU)):=
 some (p.buses,p.sources,p.links,p.racks)
def yw (p:au):Option (Int × (List Source) × (List Link) × (List aU)):=
 some (p.buses,p.sources,p.links,p.racks)
def lZ (x:Source) (x1:Int) (x11:(List Source)) (x12:(List Link)) (x13:(List aU)):Option Bool:=
 (bD x.bus 0 (IntKind.wrap .i64 (x1 - 1))).bind fun r_=>
 (bif gB [(r_,true)]then bD x.kind 1 3 else some default).bind fun r_1=>
 (bif gB [((bif r_ then r_1 else false),true)]then bD x.power 1 100000 else some default).bind fun r_2=>
 (bif gB [((bif (bif r_ then r_1 else false)then r_2 else false),true)]then bD x.sync 0 8 else some default).bind fun r_3=>
 (bif gB [((bif (bif (bif r_ then r_1 else false)then r_2 else false)then r_3 else false),true)]then bD x.fq 10 100000 else some default).bind fun r_4=>
 some (bif (bif (bif (bif r_ then r_1 else false)then r_2 else false)then r_3 else false)then r_4 else false)
def uW (x:Source) (x1:Int) (x11:(List Source)) (x12:(List Link)) (x13:(List aU)):Option Bool:=
 (lZ x x1 x11 x12 x13).bind fun r_=>
 some (!r_)
def kW (s_:(List Source)) (f_:Int) (f_1:(List Source)) (f_2:(List Link)) (f_3:(List aU)):Int→Option (bL Int (Ex Unit Int)):=
 fun t8=>
 bif (decide (t8<(s_.length:Int)))then
 (uW (at' s_ t8.toNat) f_ f_1 f_2 f_3).bind fun r_=>
 bA ((0:Int)≤t8∧t8<(s_.length:Int)) (
 bif r_ then
 some (.done (.ret t8))
 else
 some (.next (IntKind.wrap .i64 (t8+1))))
 else
 some (.done (.brk ()))
def nE (s_:(List Source)) (f_:Int) (f_1:(List Source)) (f_2:(List Link)) (f_3:(List aU)):Option Int:=
 Option.bind (aN (kW s_ f_ f_1 f_2 f_3) FUEL (0)) fun o=>match o with
 | .ret v=>some v
 | .brk _=>
 some (-1)
def iY (s_:(List Source)) (f_:Int) (f_1:(List Source)) (f_2:(List Link)) (f_3:(List aU)):Option Bool:=
 (nE s_ f_ f_1 f_2 f_3).bind fun r_=>
 some (decide (0≤r_))
def rP (l:(List Source)) (most:Int) (right:Int) (right1:(List Source)) (right2:(List Link)) (right3:(List aU)):Option Bool:=
 (bif gB [((decide ((l.length:Int)≤most)),true)]then iY l right right1 right2 right3 else some default).bind fun r_=>
 some (bif (decide ((l.length:Int)≤most))then(!r_)else false)
def lC (x:Link):Int→Option (bL Int (Ex Unit Bool)):=
 fun t50=>
 bif (decide (t50<(x.trip.length:Int)))then
 bA ((0:Int)≤t50∧t50<(x.trip.length:Int)) (
 (bD ((at' x.trip t50.toNat).amps) 1 1000000).bind fun r_5=>
 (bif gB [((!r_5),false)]then bD ((at' x.trip t50.toNat).millis) 1 100000 else some default).bind fun r_6=>
 bA ((gB [((decide (0<t50)),true),((bif (!r_5)then true else(!r_6)),false)]=true→(0:Int)≤(IntKind.wrap .i64 (t50 - 1))∧(IntKind.wrap .i64 (t50 - 1))<(x.trip.length:Int))∧(gB [((decide (((at' x.trip t50.toNat).amps)≤((at' x.trip ((IntKind.wrap .i64 (t50 - 1)).toNat)).amps))),false),((decide (0<t50)),true),((bif (!r_5)then true else(!r_6)),false)]=true→(0:Int)≤(IntKind.wrap .i64 (t50 - 1))∧(IntKind.wrap .i64 (t50 - 1))<(x.trip.length:Int))) (
 bif (bif (bif (!r_5)then true else(!r_6))then true else(bif (decide (0<t50))then(bif (decide (((at' x.trip t50.toNat).amps)≤((at' x.trip ((IntKind.wrap .i64 (t50 - 1)).toNat)).amps)))then true else(decide (((at' x.trip ((IntKind.wrap .i64 (t50 - 1)).toNat)).millis)≤((at' x.trip t50.toNat).millis))))else false))then
 some (.done (.ret false))
 else
 some (.next (IntKind.wrap .i64 (t50+1)))))
 else
 some (.done (.brk ()))
def om (x:Link) (x1:Int) (x11:(List Source)) (x12:(List Link)) (x13:(List aU)):Option Bool:=
 (bD x.a 0 (IntKind.wrap .i64 (x1 - 1))).bind fun r_=>
 (bif gB [((!r_),false)]then bD x.b 0 (IntKind.wrap .i64 (x1 - 1))else some default).bind fun r_1=>
 (bif gB [((bif (bif (!r_)then true else(!r_1))then true else(decide (x.a=x.b))),false)]then bD x.kind 1 3 else some default).bind fun r_2=>
 (bif gB [((bif (bif (bif (!r_)then true else(!r_1))then true else(decide (x.a=x.b)))then true else(!r_2)),false)]then bD x.most 1 100000 else some default).bind fun r_3=>
 (bif gB [((bif (bif (bif (bif (!r_)then true else(!r_1))then true else(decide (x.a=x.b)))then true else(!r_2))then true else(!r_3)),false)]then bD x.fq 10 100000 else some default).bind fun r_4=>
 bif (bif (bif (bif (bif (bif (!r_)then true else(!r_1))then true else(decide (x.a=x.b)))then true else(!r_2))then true else(!r_3))then true else(!r_4))then
 some false
 else
 Option.bind (aN (lC x) FUEL (0)) fun o=>match o with
 | .ret v=>some v
 | .brk _=>
 some (bif (decide ((x.trip.length:Int)≤6))then(bif (decide ((x.trip.length:Int)=0))then true else(decide (x.kind=3)))else false)
def oh (x:Link) (x1:Int) (x11:(List Source)) (x12:(List Link)) (x13:(List aU)):Option Bool:=
 (om x x1 x11 x12 x13).bind fun r_=>
 some (!r_)
def jJ (s_:(List Link)) (f_:Int) (f_1:(List Source)) (f_2:(List Link)) (f_3:(List aU)):Int→Option (bL Int (Ex Unit Int)):=
 fun t8=>
 bif (decide (t8<(s_.length:Int)))then
 (oh (at' s_ t8.toNat) f_ f_1 f_2 f_3).bind fun r_=>
 bA ((0:Int)≤t8∧t8<(s_.length:Int)) (
 bif r_ then
 some (.done (.ret t8))
 else
 some (.next (IntKind.wrap .i64 (t8+1))))
 else
 some (.done (.brk ()))
def kU (s_:(List Link)) (f_:Int) (f_1:(List Source)) (f_2:(List Link)) (f_3:(List aU)):Option Int:=
 Option.bind (aN (jJ s_ f_ f_1 f_2 f_3) FUEL (0)) fun o=>match o with
 | .ret v=>some v
 | .brk _=>
 some (-1)
def gN (s_:(List Link)) (f_:Int) (f_1:(List Source)) (f_2:(List Link)) (f_3:(List aU)):Option Bool:=
 (kU s_ f_ f_1 f_2 f_3).bind fun r_=>
 some (decide (0≤r_))
def oL (l:(List Link)) (most:Int) (right:Int) (right1:(List Source)) (right2:(List Link)) (right3:(List aU)):Option Bool:=
 (bif gB [((decide ((l.length:Int)≤most)),true)]then gN l right right1 right2 right3 else some default).bind fun r_=>
 some (bif (decide ((l.length:Int)≤most))then(!r_)else false)
def qz (x:aU):Option Int:=
 bif (decide (x.feeds.e1=(-1)))then
 some 1
 else
 some 2
def oH (x:aU) (x1:Int) (x11:(List Source)) (x12:(List Link)) (x13:(List aU)):Option Bool:=
 (bD x.feeds.e0 0 (IntKind.wrap .i64 (x1 - 1))).bind fun r_=>
 (bif gB [(r_,true)]then bD x.feeds.e1 (-1) (IntKind.wrap .i64 (x1 - 1))else some default).bind fun r_1=>
 (bif gB [((bif (bif r_ then r_1 else false)then(!decide (x.feeds.e0=x.feeds.e1))else false),true)]then bD x.power 1 100000 else some default).bind fun r_2=>
 (bif gB [((bif (bif (bif r_ then r_1 else false)then(!decide (x.feeds.e0=x.feeds.e1))else false)then r_2 else false),true)]then qz x else some default).bind fun r_3=>
 (bif gB [((bif (bif (bif r_ then r_1 else false)then(!decide (x.feeds.e0=x.feeds.e1))else false)then r_2 else false),true)]then bD x.paths 0 r_3 else some default).bind fun r_4=>
 some (bif (bif (bif (bif r_ then r_1 else false)then(!decide (x.feeds.e0=x.feeds.e1))else false)then r_2 else false)then r_4 else false)
def oU (x:aU) (x1:Int) (x11:(List Source)) (x12:(List Link)) (x13:(List aU)):Option Bool:=
 (oH x x1 x11 x12 x13).bind fun r_=>
 some (!r_)
def jF (s_:(List aU)) (f_:Int) (f_1:(List Source)) (f_2:(List Link)) (f_3:(List aU)):Int→Option (bL Int (Ex Unit Int)):=
 fun t8=>
 bif (decide (t8<(s_.length:Int)))then
 (oU (⟨((at' s_ t8.toNat).feeds),(at' s_ t8.toNat).power,(at' s_ t8.toNat).paths⟩:aU) f_ f_1 f_2 f_3).bind fun r_=>
 bA ((0:Int)≤t8∧t8<(s_.length:Int)) (
 bif r_ then
 some (.done (.ret t8))
 else
 some (.next (IntKind.wrap .i64 (t8+1))))
 else
 some (.done (.brk ()))
def kV (s_:(List aU)) (f_:Int) (f_1:(List Source)) (f_2:(List Link)) (f_3:(List aU)):Option Int:=
 Option.bind (aN (jF s_ f_ f_1 f_2 f_3) FUEL (0)) fun o=>match o with
 | .ret v=>some v
 | .brk _=>
 some (-1)
def gK (s_:(List aU)) (f_:Int) (f_1:(List Source)) (f_2:(List Link)) (f_3:(List aU)):Option Bool:=
 (kV s_ f_ f_1 f_2 f_3).bind fun r_=>
 some (decide (0≤r_))
def oN (l:(List aU)) (most:Int) (right:Int) (right1:(List Source)) (right2:(List Link)) (right3:(List aU)):Option Bool:=
 (bif gB [((decide ((l.length:Int)≤most)),true)]then gK l right right1 right2 right3 else some default).bind fun r_=>
 some (bif (decide ((l.length:Int)≤most))then(!r_)else false)
def kR (p:au):Option Int:=
 (bD p.buses 1 24).bind fun r_=>
 bif (!r_)then
 some 10
 else
 (vz p).bind fun r_1=>
 (rP p.sources 8 r_1.1 r_1.2.1 r_1.2.2.1 r_1.2.2.2).bind fun r_2=>
 bif (!r_2)then
 some 11
 else
 (yj p).bind fun r_3=>
 (oL p.links 40 r_3.1 r_3.2.1 r_3.2.2.1 r_3.2.2.2).bind fun r_4=>
 bif (!r_4)then
 some 12
 else
 (yw p).bind fun r_5=>
 (oN p.racks 24 r_5.1 r_5.2.1 r_5.2.2.1 r_5.2.2.2).bind fun r_6=>
 bif (!r_6)then
 some 13
 else
 some 0
def iZ (p:au) (s_:State):Int→Option (bL Int (Ex Unit Int)):=
 fun t55=>
 bif (decide (t55<([(⟨s_.closed,(p.links.length:Int)⟩:dI),(⟨s_.locked,(p.links.length:Int)⟩:dI),(⟨s_.badLink,(p.links.length:Int)⟩:dI),(⟨s_.on_,(p.sources.length:Int)⟩:dI),(⟨s_.badSource,(p.sources.length:Int)⟩:dI),(⟨s_.earthed,p.buses⟩:dI),(⟨s_.badBus,p.buses⟩:dI)].length:Int)))then
 bA ((0:Int)≤t55∧t55<([(⟨s_.closed,(p.links.length:Int)⟩:dI),(⟨s_.locked,(p.links.length:Int)⟩:dI),(⟨s_.badLink,(p.links.length:Int)⟩:dI),(⟨s_.on_,(p.sources.length:Int)⟩:dI),(⟨s_.badSource,(p.sources.length:Int)⟩:dI),(⟨s_.earthed,p.buses⟩:dI),(⟨s_.badBus,p.buses⟩:dI)].length:Int)) (
 bif (!decide ((((at' [(⟨s_.closed,(p.links.length:Int)⟩:dI),(⟨s_.locked,(p.links.length:Int)⟩:dI),(⟨s_.badLink,(p.links.length:Int)⟩:dI),(⟨s_.on_,(p.sources.length:Int)⟩:dI),(⟨s_.badSource,(p.sources.length:Int)⟩:dI),(⟨s_.earthed,p.buses⟩:dI),(⟨s_.badBus,p.buses⟩:dI)] t55.toNat).l).length:Int)=((at' [(⟨s_.closed,(p.links.length:Int)⟩:dI),(⟨s_.locked,(p.links.length:Int)⟩:dI),(⟨s_.badLink,(p.links.length:Int)⟩:dI),(⟨s_.on_,(p.sources.length:Int)⟩:dI),(⟨s_.badSource,(p.sources.length:Int)⟩:dI),(⟨s_.earthed,p.buses⟩:dI),(⟨s_.badBus,p.buses⟩:dI)] t55.toNat).n)))then
 some (.done (.ret 9))
 else
 some (.next (IntKind.wrap .i64 (t55+1))))
 else
 some (.done (.brk ()))
def ja (p:au) (s_:State):Int→Option (bL Int (Ex Unit Int)):=
 fun t69=>
 bif (decide (t69<(p.links.length:Int)))then
 bA ((0:Int)≤t69∧t69<(p.links.length:Int)) (
 bA ((gB [((decide (((at' p.links t69.toNat).kind)=1)),true)]=true→(0:Int)≤t69∧t69<(s_.closed.length:Int))∧(gB [((!(at' s_.closed t69.toNat)),false),((decide (((at' p.links t69.toNat).kind)=1)),true)]=true→(0:Int)≤t69∧t69<(s_.locked.length:Int))) (
 bif (bif (decide (((at' p.links t69.toNat).kind)=1))then(bif (!(at' s_.closed t69.toNat))then true else(at' s_.locked t69.toNat))else false)then
 some (.done (.ret 9))
 else
 some (.next (IntKind.wrap .i64 (t69+1)))))
 else
 some (.done (.brk ()))
def bV (p:au) (s_:State):Option Int:=
 (kR p).bind fun r_=>
 bif (!decide (r_=0))then
 some r_
 else
 Option.bind (aN (iZ p s_) FUEL (0)) fun o=>match o with
 | .ret v=>some v
 | .brk _=>
 Option.bind (aN (ja p s_) FUEL (0)) fun o=>match o with
 | .ret v=>some v
 | .brk _=>
 some 0
def jo (p:au) (s_:State) (rack:Int):Option Int:=
 (bV p s_).bind fun r_=>
 bif (!decide (r_=0))then
 some r_
 else
 bif (bif (decide (rack<0))then true else(decide ((p.racks.length:Int)≤rack)))then
 some 13
 else
 some 0
def jX (p:au) (t24:Int):((List Part) × Int)→Option (bL ((List Part) × Int) (Ex (List Part) (bL ((List Part) × Int) (Ex (List Part) ((List Part) × Int))))):=
 fun zz=>match zz with
 |(out2,t30)=>
 bif (decide (t30<(at' [p.buses,(p.sources.length:Int),(p.links.length:Int)] t24.toNat)))then
 bA (((out2.length+[(⟨(IntKind.wrap .i64 (t24+1)),t30⟩:Part)].length)*16≤140737488355328)∧(out2.length+[(⟨(IntKind.wrap .i64 (t24+1)),t30⟩:Part)].length≤4611686018427387904)) (
 some (.next ((out2++[(⟨(IntKind.wrap .i64 (t24+1)),t30⟩:Part)]),(IntKind.wrap .i64 (t30+1)))))
 else
 some (.done (.brk out2))
def iM (p:au):((List Part) × Int)→Option (bL ((List Part) × Int) (Ex (List Part) ((List Part) × Int))):=
 fun zz=>match zz with
 |(out,t24)=>
 bif (decide (t24<([p.buses,(p.sources.length:Int),(p.links.length:Int)].length:Int)))then
 bA ((0:Int)≤t24∧t24<([p.buses,(p.sources.length:Int),(p.links.length:Int)].length:Int)) (
 Option.bind (aN (jX p t24) FUEL (out,0)) fun o=>match o with
 | .ret v=>some v
 | .brk out3=>
 some (.next (out3,(IntKind.wrap .i64 (t24+1)))))
 else
 some (.done (.brk out))
def mZ (p:au):Option ((List Part) × Int):=
 (kR p).bind fun r_=>
 bif (!decide (r_=0))then
 some (([]:List Part),r_)
 else
 Option.bind (aN (iM p) FUEL (([]:List Part),0)) fun o=>match o with
 | .ret v=>some v
 | .brk out1=>
 some (out1,0)
def fJ (a:Int) (b:Int) (graph:Graph):Option Graph:=
 bA ((((bB a graph.aA.e0).length+[b].length)*8≤140737488355328)∧((bB a graph.aA.e0).length+[b].length≤4611686018427387904)) (
 some (⟨graph.parts,(⟨(iy a ((bB a graph.aA.e0)++[b]) graph.aA.e0),graph.aA.e1⟩:aK)⟩:Graph))
def AU (s_:(List Part)) (v_:Part):Int→Option (bL Int (Ex Unit Int)):=
 fun t8=>
 bif (decide (t8<(s_.length:Int)))then
 bA ((0:Int)≤t8∧t8<(s_.length:Int)) (
 bif ((decide (v_.kind=((at' s_ t8.toNat).kind))) && ((decide (v_.index=((at' s_ t8.toNat).index))) && true))then
 some (.done (.ret t8))
 else
 some (.next (IntKind.wrap .i64 (t8+1))))
 else
 some (.done (.brk ()))
def vM (s_:(List Part)) (v_:Part):Option Int:=
 Option.bind (aN (AU s_ v_) FUEL (0)) fun o=>match o with
 | .ret v=>some v
 | .brk _=>
 some (-1)
def fM (kz:Int) (i:Int) (graph:Graph):Option Int:=
 (vM graph.parts (⟨kz,i⟩:Part)).bind fun r_=>
 some r_
def zi (r_:((List Part) × Int)):((List (Int × (List Int))) × Int)→Option (bL ((List (Int × (List Int))) × Int) (Ex (List (Int × (List Int))) Graph)):=
 fun zz=>match zz with
 |(g01,t41)=>
 bif (decide (t41<(r_.1.length:Int)))then
 (fJ (IntKind.wrap .i64 ((2:Int)*t41)) (IntKind.wrap .i64 ((IntKind.wrap .i64 ((2:Int)*t41))+1)) (⟨r_.1,(⟨g01,([]:(List (Int × (List Int))))⟩:aK)⟩:Graph)).bind fun r_1=>
 some (.next (r_1.aA.e0,(IntKind.wrap .i64 (t41+1))))
 else
 some (.done (.brk g01))
def zm (p:au) (s_:State) (r_:((List Part) × Int)):((List (Int × (List Int))) × Int)→Option (bL ((List (Int × (List Int))) × Int) (Ex (List (Int × (List Int))) Graph)):=
 fun zz=>match zz with
 |(g012,t55)=>
 bif (decide (t55<(p.sources.length:Int)))then
 bA ((0:Int)≤t55∧t55<(p.sources.length:Int)) (
 bA (((0:Int)≤t55∧t55<(s_.on_.length:Int))∧(gB [((at' s_.on_ t55.toNat),true)]=true→(0:Int)≤t55∧t55<(s_.badSource.length:Int))∧(gB [((bif (at' s_.on_ t55.toNat)then(!(at' s_.badSource t55.toNat))else false),true)]=true→(0:Int)≤(at' p.sources t55.toNat).bus∧(at' p.sources t55.toNat).bus<(s_.badBus.length:Int))) (
 bif (bif (bif (at' s_.on_ t55.toNat)then(!(at' s_.badSource t55.toNat))else false)then(!(at' s_.badBus (((at' p.sources t55.toNat).bus).toNat)))else false)then
 (fM 2 t55 (⟨r_.1,(⟨g012,([]:(List (Int × (List Int))))⟩:aK)⟩:Graph)).bind fun r_2=>
 (fJ (-1) (IntKind.wrap .i64 ((2:Int)*r_2)) (⟨r_.1,(⟨g012,([]:(List (Int × (List Int))))⟩:aK)⟩:Graph)).bind fun r_3=>
 (fM 1 ((at' p.sources t55.toNat).bus) (⟨r_.1,(⟨r_3.aA.e0,([]:(List (Int × (List Int))))⟩:aK)⟩:Graph)).bind fun r_4=>
 (fJ (IntKind.wrap .i64 ((IntKind.wrap .i64 ((2:Int)*r_2))+1)) (IntKind.wrap .i64 ((2:Int)*r_4)) (⟨r_.1,(⟨r_3.aA.e0,([]:(List (Int × (List Int))))⟩:aK)⟩:Graph)).bind fun r_5=>
 some (.next (r_5.aA.e0,(IntKind.wrap .i64 (t55+1))))
 else
 some (.next (g012,(IntKind.wrap .i64 (t55+1))))))
 else
 some (.done (.brk g012))
def zw (p:au) (r_:((List Part) × Int)) (t103:Int) (r_6:Int):((List (Int × (List Int))) × Int)→Option (bL ((List (Int × (List Int))) × Int) (Ex (List (Int × (List Int))) (bL ((List (Int × (List Int))) × Int) (Ex (List (Int × (List Int))) Graph)))):=
 fun zz=>match zz with
 |(g016,t145)=>
 bif (decide (t145<2))then
 bA ((0:Int)≤t145∧t145<((2:Nat):Int)) (
 (fM 1 (at' [(at' p.links t103.toNat).a,(at' p.links t103.toNat).b] t145.toNat) (⟨r_.1,(⟨g016,([]:(List (Int × (List Int))))⟩:aK)⟩:Graph)).bind fun r_7=>
 (fJ (IntKind.wrap .i64 ((IntKind.wrap .i64 ((2:Int)*r_7))+1)) (IntKind.wrap .i64 ((2:Int)*r_6)) (⟨r_.1,(⟨g016,([]:(List (Int × (List Int))))⟩:aK)⟩:Graph)).bind fun r_8=>
 (fM 1 (at' [(at' p.links t103.toNat).a,(at' p.links t103.toNat).b] t145.toNat) (⟨r_.1,(⟨r_8.aA.e0,([]:(List (Int × (List Int))))⟩:aK)⟩:Graph)).bind fun r_9=>
 (fJ (IntKind.wrap .i64 ((IntKind.wrap .i64 ((2:Int)*r_6))+1)) (IntKind.wrap .i64 ((2:Int)*r_9)) (⟨r_.1,(⟨r_8.aA.e0,([]:(List (Int × (List Int))))⟩:aK)⟩:Graph)).bind fun r_10=>
 some (.next (r_10.aA.e0,(IntKind.wrap .i64 (t145+1)))))
 else
 some (.done (.brk g016))
def zn (p:au) (s_:State) (r_:((List Part) × Int)):((List (Int × (List Int))) × Int)→Option (bL ((List (Int × (List Int))) × Int) (Ex (List (Int × (List Int))) Graph)):=
 fun zz=>match zz with
 |(g014,t103)=>
 bif (decide (t103<(p.links.length:Int)))then
 bA ((0:Int)≤t103∧t103<(p.links.length:Int)) (
 bA (((0:Int)≤t103∧t103<(s_.closed.length:Int))∧(gB [((!(at' s_.closed t103.toNat)),false)]=true→(0:Int)≤t103∧t103<(s_.badLink.length:Int))∧(gB [((bif (!(at' s_.closed t103.toNat))then true else(at' s_.badLink t103.toNat)),false)]=true→(0:Int)≤(at' p.links t103.toNat).a∧(at' p.links t103.toNat).a<(s_.badBus.length:Int))∧(gB [((bif (bif (!(at' s_.closed t103.toNat))then true else(at' s_.badLink t103.toNat))then true else(at' s_.badBus (((at' p.links t103.toNat).a).toNat))),false)]=true→(0:Int)≤(at' p.links t103.toNat).b∧(at' p.links t103.toNat).b<(s_.badBus.length:Int))) (
 bif (bif (bif (bif (!(at' s_.closed t103.toNat))then true else(at' s_.badLink t103.toNat))then true else(at' s_.badBus (((at' p.links t103.toNat).a).toNat)))then true else(at' s_.badBus (((at' p.links t103.toNat).b).toNat)))then
 some (.next (g014,(IntKind.wrap .i64 (t103+1))))
 else
 (fM 3 t103 (⟨r_.1,(⟨g014,([]:(List (Int × (List Int))))⟩:aK)⟩:Graph)).bind fun r_6=>
 Option.bind (aN (zw p r_ t103 r_6) FUEL (g014,0)) fun o=>match o with
 | .ret v=>some v
 | .brk g017=>
 some (.next (g017,(IntKind.wrap .i64 (t103+1))))))
 else
 some (.done (.brk g014))
def zI (p:au) (s_:State) (rack:Int) (r_:((List Part) × Int)):((List (Int × (List Int))) × Int)→Option (bL ((List (Int × (List Int))) × Int) (Ex (List (Int × (List Int))) Graph)):=
 fun zz=>match zz with
 |(g018,t174)=>
 bif (decide (t174<2))then
 bA ((0:Int)≤t174∧t174<((2:Nat):Int)) (
 bA (gB [((decide (0≤(at' [((at' p.racks rack.toNat).feeds).e0,((at' p.racks rack.toNat).feeds).e1] t174.toNat))),true)]=true→(0:Int)≤(at' [((at' p.racks rack.toNat).feeds).e0,((at' p.racks rack.toNat).feeds).e1] t174.toNat)∧(at' [((at' p.racks rack.toNat).feeds).e0,((at' p.racks rack.toNat).feeds).e1] t174.toNat)<(s_.badBus.length:Int)) (
 bif (bif (decide (0≤(at' [((at' p.racks rack.toNat).feeds).e0,((at' p.racks rack.toNat).feeds).e1] t174.toNat)))then(!(at' s_.badBus ((at' [((at' p.racks rack.toNat).feeds).e0,((at' p.racks rack.toNat).feeds).e1] t174.toNat).toNat)))else false)then
 (fM 1 (at' [((at' p.racks rack.toNat).feeds).e0,((at' p.racks rack.toNat).feeds).e1] t174.toNat) (⟨r_.1,(⟨g018,([]:(List (Int × (List Int))))⟩:aK)⟩:Graph)).bind fun r_11=>
 (fJ (IntKind.wrap .i64 ((IntKind.wrap .i64 ((2:Int)*r_11))+1)) (-2) (⟨r_.1,(⟨g018,([]:(List (Int × (List Int))))⟩:aK)⟩:Graph)).bind fun r_12=>
 some (.next (r_12.aA.e0,(IntKind.wrap .i64 (t174+1))))
 else
 some (.next (g018,(IntKind.wrap .i64 (t174+1))))))
 else
 some (.done (.brk g018))
def uS (p:au) (s_:State) (rack:Int):Option Graph:=
 (mZ p).bind fun r_=>
 Option.bind (aN (zi r_) FUEL (([]:(List (Int × (List Int)))),0)) fun o=>match o with
 | .ret v=>some v
 | .brk g011=>
 Option.bind (aN (zm p s_ r_) FUEL (g011,0)) fun o=>match o with
 | .ret v=>some v
 | .brk g013=>
 Option.bind (aN (zn p s_ r_) FUEL (g013,0)) fun o=>match o with
 | .ret v=>some v
 | .brk g015=>
 bA ((0:Int)≤rack∧rack<(p.racks.length:Int)) (
 Option.bind (aN (zI p s_ rack r_) FUEL (g015,0)) fun o=>match o with
 | .ret v=>some v
 | .brk g019=>
 some (⟨r_.1,(⟨g019,([]:(List (Int × (List Int))))⟩:aK)⟩:Graph))
def oG (s_:(List Int)) (s_nn:Bool):Option (List Int):=
 bif (!s_nn)then
 some ([]:List Int)
 else
 bA (((([]:List Int).length+s_.length)*8≤140737488355328)∧(([]:List Int).length+s_.length≤4611686018427387904)) (
 some (([]:List Int)++s_))
def fT (s:(List Int)):Option (List Int):=oG s true
def gQ (s_:(List Int)) (v_:Int):Int→Option (bL Int (Ex Unit Int)):=
 fun t8=>
 bif (decide (t8<(s_.length:Int)))then
 bA ((0:Int)≤t8∧t8<(s_.length:Int)) (
 bif (decide (v_=(at' s_ t8.toNat)))then
 some (.done (.ret t8))
 else
 some (.next (IntKind.wrap .i64 (t8+1))))
 else
 some (.done (.brk ()))
def eP (s_:(List Int)) (v_:Int):Option Int:=
 Option.bind (aN (gQ s_ v_) FUEL (0)) fun o=>match o with
 | .ret v=>some v
 | .brk _=>
 some (-1)
def kE (s:List Int) (i j:Int):Option (List Int):=Ut s i j
def iO (a:Int) (b:Int) (from_:Int) (graph:Graph):Option Graph:=
 bif (decide (from_=0))then
 (eP (bB a graph.aA.e0) b).bind fun r_=>
 (kE (bB a graph.aA.e0) r_ (IntKind.wrap .i64 (r_+1))).bind fun r_1=>
 bA ((((bB a graph.aA.e1).length+[b].length)*8≤140737488355328)∧((bB a graph.aA.e1).length+[b].length≤4611686018427387904)) (
 some (⟨graph.parts,(⟨(iy a r_1 graph.aA.e0),(iy a ((bB a graph.aA.e1)++[b]) graph.aA.e1)⟩:aK)⟩:Graph))
 else
 bA (from_=1) (
 (eP (bB a graph.aA.e1) b).bind fun r_2=>
 (kE (bB a graph.aA.e1) r_2 (IntKind.wrap .i64 (r_2+1))).bind fun r_3=>
 bA ((((bB a graph.aA.e0).length+[b].length)*8≤140737488355328)∧((bB a graph.aA.e0).length+[b].length≤4611686018427387904)) (
 some (⟨graph.parts,(⟨(iy a ((bB a graph.aA.e0)++[b]) graph.aA.e0),(iy a r_3 graph.aA.e1)⟩:aK)⟩:Graph)))
def dL (s_:(List Int)) (v_:Int):Option Bool:=
 (eP s_ v_).bind fun r_=>
 some (decide (0≤r_))
def uP (rec:Int→(List (Int × Bool))→Graph→Option (Bool × (List (Int × Bool)) × Graph)) (at_:Int) (graph:Graph) (r_:(List Int)):((List (Int × Bool)) × (List (Int × (List Int))) × (List (Int × (List Int))) × Int)→Option (bL ((List (Int × Bool)) × (List (Int × (List Int))) × (List (Int × (List Int))) × Int) (Ex ((List (Int × Bool)) × (List (Int × (List Int))) × (List (Int × (List Int)))) (Bool × (List (Int × Bool)) × Graph))):=
 fun zz=>match zz with
 |(o0,o01,o02,t23)=>
 bif (decide (t23<(r_.length:Int)))then
 bA ((0:Int)≤t23∧t23<(r_.length:Int)) (
 bif (!((bN bn (at' r_ t23.toNat) o0).getD false))then
 (rec (at' r_ t23.toNat) o0 (⟨graph.parts,(⟨o01,o02⟩:aK)⟩:Graph)).bind fun r_1=>
 bif r_1.1 then
 (iO at_ (at' r_ t23.toNat) 0 (⟨graph.parts,r_1.2.2.aA⟩:Graph)).bind fun r_2=>
 some (.done (.ret (true,r_1.2.1,(⟨graph.parts,r_2.aA⟩:Graph))))
 else
 some (.next (r_1.2.1,r_1.2.2.aA.e0,r_1.2.2.aA.e1,(IntKind.wrap .i64 (t23+1))))
 else
 some (.next (o0,o01,o02,(IntKind.wrap .i64 (t23+1)))))
 else
 some (.done (.brk (o0,o01,o02)))
def iQ (rec:Int→(List (Int × Bool))→Graph→Option (Bool × (List (Int × Bool)) × Graph)) (at_:Int) (graph:Graph) (o021:(List (Int × (List Int)))):Int × List Int→((List (Int × Bool)) × (List (Int × (List Int))))→Option (bL ((List (Int × Bool)) × (List (Int × (List Int)))) (Ex Empty (Bool × (List (Int × Bool)) × Graph))):=
 fun x=>fun zz=>match zz with
 |(o04,o012)=>
 bif (bif (!((bN bn x.1 o04).getD false))then(!decide (x.1=(-1)))else false)then
 (dL x.2 at_).bind fun r_3=>
 bif r_3 then
 (rec x.1 o04 (⟨graph.parts,(⟨o012,o021⟩:aK)⟩:Graph)).bind fun r_4=>
 bif r_4.1 then
 (iO x.1 at_ 1 (⟨graph.parts,r_4.2.2.aA⟩:Graph)).bind fun r_5=>
 some (.done (.ret (true,r_4.2.1,(⟨graph.parts,r_5.aA⟩:Graph))))
 else
 bA (r_4.2.2.aA.e1=o021) (
 some (.next (r_4.2.1,r_4.2.2.aA.e0)))
 else
 some (.next (o04,o012))
 else
 some (.next (o04,o012))
def lH (at_:Int):Int × List Int→Bool:=
 fun x=> !(decide (x.1= -1)) && nfl (dL x.2 at_)
def kK (rec:Int→(List (Int × Bool))→Graph→Option (Bool × (List (Int × Bool)) × Graph)) (at_:Int) (o_:(List (Int × Bool))) (graph:Graph):Option (Bool × (List (Int × Bool)) × Graph):=
 bif (decide (at_=(-2)))then
 some (true,o_,graph)
 else
 (fT (bB at_ graph.aA.e0)).bind fun r_=>
 Option.bind (aN (uP rec at_ graph r_) FUEL ((dG bn at_ true o_),graph.aA.e0,graph.aA.e1,0)) fun o=>match o with
 | .ret v=>some v
 | .brk (o03,o011,o021)=>
 Option.bind (goG o021 (lH at_) (iQ rec at_ graph o021) (o03,o011)) fun o=>match o with
 | .ret v=>some v
 | .brk (o05,o013)=>
 some (false,o05,(⟨graph.parts,(⟨o013,o021⟩:aK)⟩:Graph))
def gY:Nat→Int→(List (Int × Bool))→Graph→Option (Bool × (List (Int × Bool)) × Graph)
 |0,_,_,_=>none
 |n+1,at_,o_,graph=>kK (gY n) at_ o_ graph
def pV (graph:Graph):Option (Bool × Graph):=
 (gY FUEL (-1) ([]:(List (Int × Bool))) graph).bind fun r_=>
 some (r_.1,(⟨graph.parts,r_.2.2.aA⟩:Graph))
def zq (graph:Graph):(Int × (List Part))→Option (bL (Int × (List Part)) (Ex (List Part) (bL ((List (List Part)) × Int) (Ex (List (List Part)) (List (List Part)))))):=
 fun zz=>match zz with
 |(at_,way)=>
 bif (!decide (at_=(-2)))then
 bA ((2≠(0:Int))∧((0:Int)≤(IntKind.wrap .i64 (Int.tdiv at_ 2))∧(IntKind.wrap .i64 (Int.tdiv at_ 2))<(graph.parts.length:Int))∧((way.length+[(at' graph.parts ((IntKind.wrap .i64 (Int.tdiv at_ 2)).toNat))].length)*16≤140737488355328)∧(way.length+[(at' graph.parts ((IntKind.wrap .i64 (Int.tdiv at_ 2)).toNat))].length≤4611686018427387904)) (
 bA ((0:Int)≤0∧0<(((bN bn (IntKind.wrap .i64 (at_+1)) graph.aA.e1).getD ([]:List Int)).length:Int)) (
 some (.next ((at' ((bN bn (IntKind.wrap .i64 (at_+1)) graph.aA.e1).getD ([]:List Int)) 0),(way++[(at' graph.parts ((IntKind.wrap .i64 (Int.tdiv at_ 2)).toNat))])))))
 else
 some (.done (.brk way))
def zK (graph:Graph):((List (List Part)) × Int)→Option (bL ((List (List Part)) × Int) (Ex (List (List Part)) (List (List Part)))):=
 fun zz=>match zz with
 |(out,t14)=>
 bif (decide (t14<(((bN bn (-1) graph.aA.e1).getD ([]:List Int)).length:Int)))then
 bA ((0:Int)≤t14∧t14<(((bN bn (-1) graph.aA.e1).getD ([]:List Int)).length:Int)) (
 Option.bind (aN (zq graph) FUEL ((at' ((bN bn (-1) graph.aA.e1).getD ([]:List Int)) t14.toNat),([]:List Part))) fun o=>match o with
 | .ret v=>some v
 | .brk way1=>
 bA (((out.length+[way1].length)*24≤140737488355328)∧(out.length+[way1].length≤4611686018427387904)) (
 some (.next ((out++[way1]),(IntKind.wrap .i64 (t14+1))))))
 else
 some (.done (.brk out))
def uL (graph:Graph):Option (List (List Part)):=
 Option.bind (aN (zK graph) FUEL (([]:List (List Part)),0)) fun o=>match o with
 | .ret v=>some v
 | .brk out1=>
 some out1
def Gj (r_1:Graph):((List (Int × (List Int))) × (List (Int × (List Int))) × Int)→Option (bL ((List (Int × (List Int))) × (List (Int × (List Int))) × Int) (Ex ((List (Int × (List Int))) × (List (Int × (List Int)))) ((List (List Part)) × Int))):=
 fun zz=>match zz with
 |(g1,g2,t21)=>
 bif (decide (t21<2))then
 (pV (⟨r_1.parts,(⟨g1,g2⟩:aK)⟩:Graph)).bind fun r_2=>
 bif (!r_2.1)then
 some (.done (.brk (r_2.2.aA.e0,r_2.2.aA.e1)))
 else
 some (.next (r_2.2.aA.e0,r_2.2.aA.e1,(IntKind.wrap .i64 (t21+1))))
 else
 some (.done (.brk (g1,g2)))
def En (p:au) (s_:State) (rack:Int):Option ((List (List Part)) × Int):=
 (jo p s_ rack).bind fun r_=>
 bif (!decide (r_=0))then
 some (([]:List (List Part)),r_)
 else
 (uS p s_ rack).bind fun r_1=>
 Option.bind (aN (Gj r_1) FUEL (r_1.aA.e0,r_1.aA.e1,0)) fun o=>match o with
 | .ret v=>some v
 | .brk (g11,g21)=>
 (uL (⟨r_1.parts,(⟨g11,g21⟩:aK)⟩:Graph)).bind fun r_3=>
 some (r_3,0)
def xQ (p:au) (s_:State) (rack:Int):Option (Int × Int):=
 (En p s_ rack).bind fun r_=>
 some ((r_.1.length:Int),r_.2)
def oz (p:au) (s_:State) (kz:Int):Option Bool:=
 bA (((0:Int)≤kz∧kz<(s_.on_.length:Int))∧(gB [((at' s_.on_ kz.toNat),true)]=true→(0:Int)≤kz∧kz<(s_.badSource.length:Int))∧(gB [((bif (at' s_.on_ kz.toNat)then(!(at' s_.badSource kz.toNat))else false),true)]=true→(0:Int)≤kz∧kz<(p.sources.length:Int))∧(gB [((bif (at' s_.on_ kz.toNat)then(!(at' s_.badSource kz.toNat))else false),true)]=true→(0:Int)≤(at' p.sources kz.toNat).bus∧(at' p.sources kz.toNat).bus<(s_.badBus.length:Int))) (
 some (bif (bif (at' s_.on_ kz.toNat)then(!(at' s_.badSource kz.toNat))else false)then(!(at' s_.badBus (((at' p.sources kz.toNat).bus).toNat)))else false))
def kI (p:au) (s_:State) (i:Int):Option Bool:=
 bA ((0:Int)≤i∧i<(p.links.length:Int)) (
 bA (((0:Int)≤i∧i<(s_.closed.length:Int))∧(gB [((at' s_.closed i.toNat),true)]=true→(0:Int)≤i∧i<(s_.badLink.length:Int))∧(gB [((bif (at' s_.closed i.toNat)then(!(at' s_.badLink i.toNat))else false),true)]=true→(0:Int)≤(at' p.links i.toNat).a∧(at' p.links i.toNat).a<(s_.badBus.length:Int))∧(gB [((bif (bif (at' s_.closed i.toNat)then(!(at' s_.badLink i.toNat))else false)then(!(at' s_.badBus (((at' p.links i.toNat).a).toNat)))else false),true)]=true→(0:Int)≤(at' p.links i.toNat).b∧(at' p.links i.toNat).b<(s_.badBus.length:Int))) (
 some (bif (bif (bif (at' s_.closed i.toNat)then(!(at' s_.badLink i.toNat))else false)then(!(at' s_.badBus (((at' p.links i.toNat).a).toNat)))else false)then(!(at' s_.badBus (((at' p.links i.toNat).b).toNat)))else false)))
def Ab (s_:State) (b:Int):Option Bool:=
 bA (gB [((decide (0≤b)),true)]=true→(0:Int)≤b∧b<(s_.badBus.length:Int)) (
 some (bif (decide (0≤b))then(!(at' s_.badBus b.toNat))else false))
def iR (a:Int) (b:Int) (there:Int) (back:Int) (network:Network):Option (Int × Network):=
 bA (((network.aA.length+[(⟨b,there⟩:dK),(⟨a,back⟩:dK)].length)*16≤140737488355328)∧(network.aA.length+[(⟨b,there⟩:dK),(⟨a,back⟩:dK)].length≤4611686018427387904)) (
 bA (((0:Int)≤a∧a<(network.from_.length:Int))∧(((at' network.from_ a.toNat).length+[(network.aA.length:Int)].length)*8≤140737488355328)∧((at' network.from_ a.toNat).length+[(network.aA.length:Int)].length≤4611686018427387904)) (
 bA (((0:Int)≤b∧b<((network.from_.set a.toNat ((at' network.from_ a.toNat)++[(network.aA.length:Int)])).length:Int))∧(((at' (network.from_.set a.toNat ((at' network.from_ a.toNat)++[(network.aA.length:Int)])) b.toNat).length+[(IntKind.wrap .i64 ((network.aA.length:Int)+1))].length)*8≤140737488355328)∧((at' (network.from_.set a.toNat ((at' network.from_ a.toNat)++[(network.aA.length:Int)])) b.toNat).length+[(IntKind.wrap .i64 ((network.aA.length:Int)+1))].length≤4611686018427387904)) (
 some ((network.aA.length:Int),(⟨(network.aA++[(⟨b,there⟩:dK),(⟨a,back⟩:dK)]),((network.from_.set a.toNat ((at' network.from_ a.toNat)++[(network.aA.length:Int)])).set b.toNat ((at' (network.from_.set a.toNat ((at' network.from_ a.toNat)++[(network.aA.length:Int)])) b.toNat)++[(IntKind.wrap .i64 ((network.aA.length:Int)+1))]))⟩:Network)))))
def ko (network:Network):Option Unit:=
 some ()
def sK (x19:Int) (x20:Int) (o_:(List Int)) (network:Network):(Int × Int)→Option (bL (Int × Int) (Ex Int (Nat × (List Int) × Network))):=
 fun zz=>match zz with
 |(least,at_)=>
 bA ((0:Int)≤at_∧at_<((o_.set x19.toNat x20).length:Int)) (
 bif (decide (0≤(at' (o_.set x19.toNat x20) at_.toNat)))then
 Option.bind (α:=Int) (
 bA (((0:Int)≤at_∧at_<((o_.set x19.toNat x20).length:Int))∧((0:Int)≤(at' (o_.set x19.toNat x20) at_.toNat)∧(at' (o_.set x19.toNat x20) at_.toNat)<(network.aA.length:Int))) (
 bif (bif (decide (least<0))then true else(decide (((at' network.aA ((at' (o_.set x19.toNat x20) at_.toNat).toNat)).left)<least)))then
 some ((at' network.aA ((at' (o_.set x19.toNat x20) at_.toNat).toNat)).left)
 else
 some least)) fun least2=>
 bA (((0:Int)≤at_∧at_<((o_.set x19.toNat x20).length:Int))∧((0:Int)≤(IntKind.wrap .i64 (((BitVec.ofInt (IntKind.bits .i64) (at' (o_.set x19.toNat x20) at_.toNat) ^^^ BitVec.ofInt (IntKind.bits .i64) 1).toNat:Int)))∧(IntKind.wrap .i64 (((BitVec.ofInt (IntKind.bits .i64) (at' (o_.set x19.toNat x20) at_.toNat) ^^^ BitVec.ofInt (IntKind.bits .i64) 1).toNat:Int)))<(network.aA.length:Int))) (
 some (.next (least2,(at' network.aA ((IntKind.wrap .i64 (((BitVec.ofInt (IntKind.bits .i64) (at' (o_.set x19.toNat x20) at_.toNat) ^^^ BitVec.ofInt (IntKind.bits .i64) 1).toNat:Int))).toNat)).to_)))
 else
 some (.done (.brk least)))
def sN (x19:Int) (x20:Int) (o_:(List Int)) (least1:Int):((List dK) × Int)→Option (bL ((List dK) × Int) (Ex (List dK) (Nat × (List Int) × Network))):=
 fun zz=>match zz with
 |(o200,at_1)=>
 bA ((0:Int)≤at_1∧at_1<((o_.set x19.toNat x20).length:Int)) (
 bif (decide (0≤(at' (o_.set x19.toNat x20) at_1.toNat)))then
 bA (((0:Int)≤at_1∧at_1<((o_.set x19.toNat x20).length:Int))∧((0:Int)≤(at' (o_.set x19.toNat x20) at_1.toNat)∧(at' (o_.set x19.toNat x20) at_1.toNat)<(o200.length:Int))) (
 bA (((0:Int)≤at_1∧at_1<((o_.set x19.toNat x20).length:Int))∧((0:Int)≤(IntKind.wrap .i64 (((BitVec.ofInt (IntKind.bits .i64) (at' (o_.set x19.toNat x20) at_1.toNat) ^^^ BitVec.ofInt (IntKind.bits .i64) 1).toNat:Int)))∧(IntKind.wrap .i64 (((BitVec.ofInt (IntKind.bits .i64) (at' (o_.set x19.toNat x20) at_1.toNat) ^^^ BitVec.ofInt (IntKind.bits .i64) 1).toNat:Int)))<((o200.set ((at' (o_.set x19.toNat x20) at_1.toNat).toNat) (⟨(at' o200 ((at' (o_.set x19.toNat x20) at_1.toNat).toNat)).to_,(IntKind.wrap .i64 (((at' o200 ((at' (o_.set x19.toNat x20) at_1.toNat).toNat)).left) - least1))⟩:dK)).length:Int))) (
 bA (((0:Int)≤at_1∧at_1<((o_.set x19.toNat x20).length:Int))∧((0:Int)≤(IntKind.wrap .i64 (((BitVec.ofInt (IntKind.bits .i64) (at' (o_.set x19.toNat x20) at_1.toNat) ^^^ BitVec.ofInt (IntKind.bits .i64) 1).toNat:Int)))∧(IntKind.wrap .i64 (((BitVec.ofInt (IntKind.bits .i64) (at' (o_.set x19.toNat x20) at_1.toNat) ^^^ BitVec.ofInt (IntKind.bits .i64) 1).toNat:Int)))<(((o200.set ((at' (o_.set x19.toNat x20) at_1.toNat).toNat) (⟨(at' o200 ((at' (o_.set x19.toNat x20) at_1.toNat).toNat)).to_,(IntKind.wrap .i64 (((at' o200 ((at' (o_.set x19.toNat x20) at_1.toNat).toNat)).left) - least1))⟩:dK)).set ((IntKind.wrap .i64 (((BitVec.ofInt (IntKind.bits .i64) (at' (o_.set x19.toNat x20) at_1.toNat) ^^^ BitVec.ofInt (IntKind.bits .i64) 1).toNat:Int))).toNat) (⟨(at' (o200.set ((at' (o_.set x19.toNat x20) at_1.toNat).toNat) (⟨(at' o200 ((at' (o_.set x19.toNat x20) at_1.toNat).toNat)).to_,(IntKind.wrap .i64 (((at' o200 ((at' (o_.set x19.toNat x20) at_1.toNat).toNat)).left) - least1))⟩:dK)) ((IntKind.wrap .i64 (((BitVec.ofInt (IntKind.bits .i64) (at' (o_.set x19.toNat x20) at_1.toNat) ^^^ BitVec.ofInt (IntKind.bits .i64) 1).toNat:Int))).toNat)).to_,(IntKind.wrap .i64 (((at' (o200.set ((at' (o_.set x19.toNat x20) at_1.toNat).toNat) (⟨(at' o200 ((at' (o_.set x19.toNat x20) at_1.toNat).toNat)).to_,(IntKind.wrap .i64 (((at' o200 ((at' (o_.set x19.toNat x20) at_1.toNat).toNat)).left) - least1))⟩:dK)) ((IntKind.wrap .i64 (((BitVec.ofInt (IntKind.bits .i64) (at' (o_.set x19.toNat x20) at_1.toNat) ^^^ BitVec.ofInt (IntKind.bits .i64) 1).toNat:Int))).toNat)).left)+least1))⟩:dK)).length:Int))) (
 some (.next (((o200.set ((at' (o_.set x19.toNat x20) at_1.toNat).toNat) (⟨(at' o200 ((at' (o_.set x19.toNat x20) at_1.toNat).toNat)).to_,(IntKind.wrap .i64 (((at' o200 ((at' (o_.set x19.toNat x20) at_1.toNat).toNat)).left) - least1))⟩:dK)).set ((IntKind.wrap .i64 (((BitVec.ofInt (IntKind.bits .i64) (at' (o_.set x19.toNat x20) at_1.toNat) ^^^ BitVec.ofInt (IntKind.bits .i64) 1).toNat:Int))).toNat) (⟨(at' (o200.set ((at' (o_.set x19.toNat x20) at_1.toNat).toNat) (⟨(at' o200 ((at' (o_.set x19.toNat x20) at_1.toNat).toNat)).to_,(IntKind.wrap .i64 (((at' o200 ((at' (o_.set x19.toNat x20) at_1.toNat).toNat)).left) - least1))⟩:dK)) ((IntKind.wrap .i64 (((BitVec.ofInt (IntKind.bits .i64) (at' (o_.set x19.toNat x20) at_1.toNat) ^^^ BitVec.ofInt (IntKind.bits .i64) 1).toNat:Int))).toNat)).to_,(IntKind.wrap .i64 (((at' (o200.set ((at' (o_.set x19.toNat x20) at_1.toNat).toNat) (⟨(at' o200 ((at' (o_.set x19.toNat x20) at_1.toNat).toNat)).to_,(IntKind.wrap .i64 (((at' o200 ((at' (o_.set x19.toNat x20) at_1.toNat).toNat)).left) - least1))⟩:dK)) ((IntKind.wrap .i64 (((BitVec.ofInt (IntKind.bits .i64) (at' (o_.set x19.toNat x20) at_1.toNat) ^^^ BitVec.ofInt (IntKind.bits .i64) 1).toNat:Int))).toNat)).left)+least1))⟩:dK)),(at' ((o200.set ((at' (o_.set x19.toNat x20) at_1.toNat).toNat) (⟨(at' o200 ((at' (o_.set x19.toNat x20) at_1.toNat).toNat)).to_,(IntKind.wrap .i64 (((at' o200 ((at' (o_.set x19.toNat x20) at_1.toNat).toNat)).left) - least1))⟩:dK)).set ((IntKind.wrap .i64 (((BitVec.ofInt (IntKind.bits .i64) (at' (o_.set x19.toNat x20) at_1.toNat) ^^^ BitVec.ofInt (IntKind.bits .i64) 1).toNat:Int))).toNat) (⟨(at' (o200.set ((at' (o_.set x19.toNat x20) at_1.toNat).toNat) (⟨(at' o200 ((at' (o_.set x19.toNat x20) at_1.toNat).toNat)).to_,(IntKind.wrap .i64 (((at' o200 ((at' (o_.set x19.toNat x20) at_1.toNat).toNat)).left) - least1))⟩:dK)) ((IntKind.wrap .i64 (((BitVec.ofInt (IntKind.bits .i64) (at' (o_.set x19.toNat x20) at_1.toNat) ^^^ BitVec.ofInt (IntKind.bits .i64) 1).toNat:Int))).toNat)).to_,(IntKind.wrap .i64 (((at' (o200.set ((at' (o_.set x19.toNat x20) at_1.toNat).toNat) (⟨(at' o200 ((at' (o_.set x19.toNat x20) at_1.toNat).toNat)).to_,(IntKind.wrap .i64 (((at' o200 ((at' (o_.set x19.toNat x20) at_1.toNat).toNat)).left) - least1))⟩:dK)) ((IntKind.wrap .i64 (((BitVec.ofInt (IntKind.bits .i64) (at' (o_.set x19.toNat x20) at_1.toNat) ^^^ BitVec.ofInt (IntKind.bits .i64) 1).toNat:Int))).toNat)).left)+least1))⟩:dK)) ((IntKind.wrap .i64 (((BitVec.ofInt (IntKind.bits .i64) (at' (o_.set x19.toNat x20) at_1.toNat) ^^^ BitVec.ofInt (IntKind.bits .i64) 1).toNat:Int))).toNat)).to_)))))
 else
 some (.done (.brk o200)))
def mM (x19:Int) (x20:Int) (int:Int) (o_:(List Int)) (network:Network):Option (Nat × (List Int) × Network):=
 bA ((0:Int)≤x19∧x19<(o_.length:Int)) (
 bif (!decide (x19=int))then
 some (0,(o_.set x19.toNat x20),network)
 else
 Option.bind (aN (sK x19 x20 o_ network) FUEL ((-1),int)) fun o=>match o with
 | .ret v=>some v
 | .brk least1=>
 Option.bind (aN (sN x19 x20 o_ least1) FUEL (network.aA,int)) fun o=>match o with
 | .ret v=>some v
 | .brk o2001=>
 some (2,(o_.set x19.toNat x20),(⟨o2001,network.from_⟩:Network)))
def qg (x:ai) (o_:bQ):Option bQ:=
 bA (((o_.l.length+[x].length)*16≤140737488355328)∧(o_.l.length+[x].length≤4611686018427387904)) (
 some (⟨(o_.l++[x])⟩:bQ))
def oo (o_:bQ):Option (ai × Bool × bQ):=
 bif (decide ((o_.l.length:Int)=0))then
 some ((⟨0,0⟩:ai),false,o_)
 else
 bA (((0:Int)≤0∧0<(o_.l.length:Int))∧((0:Int)≤(1:Int)∧(1:Int)≤(o_.l.length:Int))) (
 some ((at' o_.l 0),true,(⟨(o_.l.drop 1)⟩:bQ)))
def rG (at0:Int) (r_:(Nat × (List Int) × Network)):((List Bool) × (List ai) × Int)→Option (bL ((List Bool) × (List ai) × Int) (Ex ((List Bool) × (List ai)) (bL ((List dK) × (List (List Int)) × (List Int) × (List Bool) × (List ai) × Int × Int) (Ex Unit (Nat × (List Int) × Network))))):=
 fun zz=>match zz with
 |(seen1,q01,t36)=>
 bif (decide (t36<((at' r_.2.2.from_ at0.toNat).length:Int)))then
 bA ((0:Int)≤t36∧t36<((at' r_.2.2.from_ at0.toNat).length:Int)) (
 bA ((0:Int)≤(at' (at' r_.2.2.from_ at0.toNat) t36.toNat)∧(at' (at' r_.2.2.from_ at0.toNat) t36.toNat)<(r_.2.2.aA.length:Int)) (
 bA (gB [((decide (0<((at' r_.2.2.aA ((at' (at' r_.2.2.from_ at0.toNat) t36.toNat).toNat)).left))),true)]=true→(0:Int)≤(at' r_.2.2.aA ((at' (at' r_.2.2.from_ at0.toNat) t36.toNat).toNat)).to_∧(at' r_.2.2.aA ((at' (at' r_.2.2.from_ at0.toNat) t36.toNat).toNat)).to_<(seen1.length:Int)) (
 bif (bif (decide (0<((at' r_.2.2.aA ((at' (at' r_.2.2.from_ at0.toNat) t36.toNat).toNat)).left)))then(!(at' seen1 (((at' r_.2.2.aA ((at' (at' r_.2.2.from_ at0.toNat) t36.toNat).toNat)).to_).toNat)))else false)then
 bA ((0:Int)≤(at' r_.2.2.aA ((at' (at' r_.2.2.from_ at0.toNat) t36.toNat).toNat)).to_∧(at' r_.2.2.aA ((at' (at' r_.2.2.from_ at0.toNat) t36.toNat).toNat)).to_<(seen1.length:Int)) (
 (qg (⟨(at' r_.2.2.aA ((at' (at' r_.2.2.from_ at0.toNat) t36.toNat).toNat)).to_,(at' (at' r_.2.2.from_ at0.toNat) t36.toNat)⟩:ai) (⟨q01⟩:bQ)).bind fun r_1=>
 some (.next ((seen1.set (((at' r_.2.2.aA ((at' (at' r_.2.2.from_ at0.toNat) t36.toNat).toNat)).to_).toNat) true),r_1.l,(IntKind.wrap .i64 (t36+1)))))
 else
 some (.next (seen1,q01,(IntKind.wrap .i64 (t36+1)))))))
 else
 some (.done (.brk (seen1,q01)))
def rJ (int:Int):((List dK) × (List (List Int)) × (List Int) × (List Bool) × (List ai) × Int × Int)→Option (bL ((List dK) × (List (List Int)) × (List Int) × (List Bool) × (List ai) × Int × Int) (Ex Unit (Nat × (List Int) × Network))):=
 fun zz=>match zz with
 |(o200,o201,o40,seen,q0,at0,at1)=>
 (mM at0 at1 int o40 (⟨o200,o201⟩:Network)).bind fun r_=>
 bif (Nat.beq r_.1 0)then
 bA ((0:Int)≤at0∧at0<(r_.2.2.from_.length:Int)) (
 Option.bind (aN (rG at0 r_) FUEL (seen,q0,0)) fun o=>match o with
 | .ret v=>some v
 | .brk (seen2,q02)=>
 (oo (⟨q02⟩:bQ)).bind fun r_2=>
 bif (!r_2.2.1)then
 some (.done (.ret (0,r_.2.1,r_.2.2)))
 else
 some (.next (r_.2.2.aA,r_.2.2.from_,r_.2.1,seen2,r_2.2.2.l,r_2.1.e0,r_2.1.e1)))
 else
 some (.done (.ret (r_.1,r_.2.1,r_.2.2)))
def mO (int:Int) (o_:(List Int)) (network:Network):Option (Nat × (List Int) × Network):=
 bA (((0:Int)≤(network.from_.length:Int))∧((1:Int)*(network.from_.length:Int)≤281474976710656)∧(((network.from_.length:Int):Int)≤9223372036854775807)) (
 bA ((0:Int)≤0∧0<((List.replicate ((network.from_.length:Int).toNat) (false:Bool)).length:Int)) (
 Option.bind (aN (rJ int) FUEL (network.aA,network.from_,o_,((List.replicate ((network.from_.length:Int).toNat) (false:Bool)).set 0 true),([]:List ai),0,(-1))) fun o=>match o with
 | .ret v=>some v
 | .brk _=>none))
def yt (sink:Int):((List dK) × (List (List Int)))→Option (bL ((List dK) × (List (List Int))) (Ex Unit Network)):=
 fun zz=>match zz with
 |(o0,o1)=>
 bA (((0:Int)≤(o1.length:Int))∧((8:Int)*(o1.length:Int)≤281474976710656)∧(((o1.length:Int):Int)≤9223372036854775807)) (
 (ko (⟨o0,o1⟩:Network)).bind fun r_=>
 (mO sink (List.replicate ((o1.length:Int).toNat) (0:Int)) (⟨o0,o1⟩:Network)).bind fun r_1=>
 bif Nat.beq r_1.1 0 then
 some (.done (.ret r_1.2.2))
 else
 bA (r_1.1=2) (
 some (.next (r_1.2.2.aA,r_1.2.2.from_))))
def rq (sink:Int) (network:Network):Option Network:=
 Option.bind (aN (yt sink) FUEL (network.aA,network.from_)) fun o=>match o with
 | .ret v=>some v
 | .brk _=>none
def wh (x236:Int) (x237:Int) (plant:au) (o_:(List Bool)):Option (List Bool):=
 bif (bif (decide (0<x236))then(decide (x236≤plant.buses))else false)then
 bA ((0:Int)≤(IntKind.wrap .i64 (x236 - 1))∧(IntKind.wrap .i64 (x236 - 1))<(o_.length:Int)) (
 some (o_.set ((IntKind.wrap .i64 (x236 - 1)).toNat) true))
 else
 some o_
def qi (x1:(List dK)) (x11:(List (List Int))) (at0:Int):((List Bool) × (List ai) × Int)→Option (bL ((List Bool) × (List ai) × Int) (Ex ((List Bool) × (List ai)) (bL ((List Bool) × (List Bool) × (List ai) × Int × Int) (Ex Unit (List Bool))))):=
 fun zz=>match zz with
 |(seen1,q01,t36)=>
 bif (decide (t36<((at' x11 at0.toNat).length:Int)))then
 bA ((0:Int)≤t36∧t36<((at' x11 at0.toNat).length:Int)) (
 bA ((0:Int)≤(at' (at' x11 at0.toNat) t36.toNat)∧(at' (at' x11 at0.toNat) t36.toNat)<(x1.length:Int)) (
 bA (gB [((decide (0<((at' x1 ((at' (at' x11 at0.toNat) t36.toNat).toNat)).left))),true)]=true→(0:Int)≤(at' x1 ((at' (at' x11 at0.toNat) t36.toNat).toNat)).to_∧(at' x1 ((at' (at' x11 at0.toNat) t36.toNat).toNat)).to_<(seen1.length:Int)) (
 bif (bif (decide (0<((at' x1 ((at' (at' x11 at0.toNat) t36.toNat).toNat)).left)))then(!(at' seen1 (((at' x1 ((at' (at' x11 at0.toNat) t36.toNat).toNat)).to_).toNat)))else false)then
 bA ((0:Int)≤(at' x1 ((at' (at' x11 at0.toNat) t36.toNat).toNat)).to_∧(at' x1 ((at' (at' x11 at0.toNat) t36.toNat).toNat)).to_<(seen1.length:Int)) (
 (qg (⟨(at' x1 ((at' (at' x11 at0.toNat) t36.toNat).toNat)).to_,(at' (at' x11 at0.toNat) t36.toNat)⟩:ai) (⟨q01⟩:bQ)).bind fun r_1=>
 some (.next ((seen1.set (((at' x1 ((at' (at' x11 at0.toNat) t36.toNat).toNat)).to_).toNat) true),r_1.l,(IntKind.wrap .i64 (t36+1)))))
 else
 some (.next (seen1,q01,(IntKind.wrap .i64 (t36+1)))))))
 else
 some (.done (.brk (seen1,q01)))
def qh (x1:(List dK)) (x11:(List (List Int))) (plant:au):((List Bool) × (List Bool) × (List ai) × Int × Int)→Option (bL ((List Bool) × (List Bool) × (List ai) × Int × Int) (Ex Unit (List Bool))):=
 fun zz=>match zz with
 |(o280,seen,q0,at0,at1)=>
 (wh at0 at1 plant o280).bind fun r_=>
 bA ((0:Int)≤at0∧at0<(x11.length:Int)) (
 Option.bind (aN (qi x1 x11 at0) FUEL (seen,q0,0)) fun o=>match o with
 | .ret v=>some v
 | .brk (seen2,q02)=>
 (oo (⟨q02⟩:bQ)).bind fun r_2=>
 bif (!r_2.2.1)then
 some (.done (.ret r_))
 else
 some (.next (r_,seen2,r_2.2.2.l,r_2.1.e0,r_2.1.e1)))
def lg (x1:(List dK)) (x11:(List (List Int))) (plant:au) (o_:(List Bool)):Option (List Bool):=
 bA (((0:Int)≤(x11.length:Int))∧((1:Int)*(x11.length:Int)≤281474976710656)∧(((x11.length:Int):Int)≤9223372036854775807)) (
 bA ((0:Int)≤0∧0<((List.replicate ((x11.length:Int).toNat) (false:Bool)).length:Int)) (
 Option.bind (aN (qh x1 x11 plant) FUEL (o_,((List.replicate ((x11.length:Int).toNat) (false:Bool)).set 0 true),([]:List ai),0,(-1))) fun o=>match o with
 | .ret v=>some v
 | .brk _=>none))
def zf (p:au) (s_:State):((List dK) × (List (List Int)) × (List (Int × Int)) × Int)→Option (bL ((List dK) × (List (List Int)) × (List (Int × Int)) × Int) (Ex ((List Source) × (List dK) × (List (List Int)) × (List Int) × (List (Int × Int))) (gV × (List Bool) × Int))):=
 fun zz=>match zz with
 |(n0,n1,sources,t68)=>
 bif (decide (t68<(p.sources.length:Int)))then
 bA ((0:Int)≤t68∧t68<(p.sources.length:Int)) (
 (oz p s_ t68).bind fun r_1=>
 bif r_1 then
 (iR 0 (IntKind.wrap .i64 ((1:Int)+((at' p.sources t68.toNat).bus))) ((at' p.sources t68.toNat).power) 0 (⟨n0,n1⟩:Network)).bind fun r_2=>
 some (.next (r_2.2.aA,r_2.2.from_,(dG bn t68 r_2.1 sources),(IntKind.wrap .i64 (t68+1))))
 else
 some (.next (n0,n1,sources,(IntKind.wrap .i64 (t68+1)))))
 else
 some (.done (.brk (p.sources,n0,n1,(List.replicate ((p.sources.length:Int).toNat) (0:Int)),sources)))
def zh (p:au) (s_:State) (p1:(List Source)):((List dK) × (List (List Int)) × (List (Int × Int)) × Int)→Option (bL ((List dK) × (List (List Int)) × (List (Int × Int)) × Int) (Ex ((List Link) × (List dK) × (List (List Int)) × (List Int) × (List (Int × Int))) (gV × (List Bool) × Int))):=
 fun zz=>match zz with
 |(n02,n12,links,t90)=>
 bif (decide (t90<(p.links.length:Int)))then
 bA ((0:Int)≤t90∧t90<(p.links.length:Int)) (
 (kI (⟨p.buses,p1,p.links,p.racks⟩:au) s_ t90).bind fun r_3=>
 bif r_3 then
 (iR (IntKind.wrap .i64 ((1:Int)+((at' p.links t90.toNat).a))) (IntKind.wrap .i64 ((1:Int)+((at' p.links t90.toNat).b))) ((at' p.links t90.toNat).most) ((at' p.links t90.toNat).most) (⟨n02,n12⟩:Network)).bind fun r_4=>
 some (.next (r_4.2.aA,r_4.2.from_,(dG bn t90 r_4.1 links),(IntKind.wrap .i64 (t90+1))))
 else
 some (.next (n02,n12,links,(IntKind.wrap .i64 (t90+1)))))
 else
 some (.done (.brk (p.links,n02,n12,(List.replicate ((p.links.length:Int).toNat) (0:Int)),links)))
def y9 (p:au) (s_:State) (t115:(List aU)) (t117:Int):((List dK) × (List (List Int)) × (List (ai × Int)) × Int)→Option (bL ((List dK) × (List (List Int)) × (List (ai × Int)) × Int) (Ex ((List dK) × (List (List Int)) × (List (ai × Int))) (bL ((List aU) × Int × (List dK) × (List (List Int)) × (List ai) × (List (ai × Int)) × (List aU) × Int × Int) (Ex ((List aU) × Int × (List dK) × (List (List Int)) × (List ai) × (List (ai × Int))) (gV × (List Bool) × Int))))):=
 fun zz=>match zz with
 |(n06,n16,racks2,t134)=>
 bif (decide (t134<2))then
 bA ((0:Int)≤t134∧t134<((2:Nat):Int)) (
 (Ab s_ (at' [((at' t115 t117.toNat).feeds).e0,((at' t115 t117.toNat).feeds).e1] t134.toNat)).bind fun r_6=>
 bif r_6 then
 (iR (IntKind.wrap .i64 ((1:Int)+(at' [((at' t115 t117.toNat).feeds).e0,((at' t115 t117.toNat).feeds).e1] t134.toNat))) (IntKind.wrap .i64 ((IntKind.wrap .i64 ((1:Int)+p.buses))+t117)) ((at' t115 t117.toNat).power) 0 (⟨n06,n16⟩:Network)).bind fun r_7=>
 some (.next (r_7.2.aA,r_7.2.from_,(dG (fun a b=>(decide (a.e0=b.e0) && (decide (a.e1=b.e1) && true))) (⟨t117,t134⟩:ai) r_7.1 racks2),(IntKind.wrap .i64 (t134+1))))
 else
 some (.next (n06,n16,racks2,(IntKind.wrap .i64 (t134+1)))))
 else
 some (.done (.brk (n06,n16,racks2)))
def yR (p:au) (s_:State):((List aU) × Int × (List dK) × (List (List Int)) × (List ai) × (List (ai × Int)) × (List aU) × Int × Int)→Option (bL ((List aU) × Int × (List dK) × (List (List Int)) × (List ai) × (List (ai × Int)) × (List aU) × Int × Int) (Ex ((List aU) × Int × (List dK) × (List (List Int)) × (List ai) × (List (ai × Int))) (gV × (List Bool) × Int))):=
 fun zz=>match zz with
 |(p3,sink,n04,n14,x2,racks,t115,t116,t117)=>
 bif (decide (t117<t116))then
 bA ((0:Int)≤t117∧t117<(t115.length:Int)) (
 (iR (IntKind.wrap .i64 ((IntKind.wrap .i64 ((1:Int)+p.buses))+t117)) sink ((at' t115 t117.toNat).power) 0 (⟨n04,n14⟩:Network)).bind fun r_5=>
 Option.bind (aN (y9 p s_ t115 t117) FUEL (r_5.2.aA,r_5.2.from_,racks,0)) fun o=>match o with
 | .ret v=>some v
 | .brk (n07,n17,racks3)=>
 some (.next (p3,sink,n07,n17,x2,racks3,t115,t116,(IntKind.wrap .i64 (t117+1)))))
 else
 some (.done (.brk (p3,sink,n04,n14,x2,racks)))
def yO (sources1:(List (Int × Int))) (r_8:Network):(List Int)→Nat→Option (List Int):=
 fun x01 i=>
 bA (((0:Int)≤(IntKind.wrap .i64 (((BitVec.ofInt (IntKind.bits .i64) (at' (sources1.map Prod.snd) i) ^^^ BitVec.ofInt (IntKind.bits .i64) 1).toNat:Int)))∧(IntKind.wrap .i64 (((BitVec.ofInt (IntKind.bits .i64) (at' (sources1.map Prod.snd) i) ^^^ BitVec.ofInt (IntKind.bits .i64) 1).toNat:Int)))<(r_8.aA.length:Int))∧((0:Int)≤(at' (sources1.map Prod.fst) i)∧(at' (sources1.map Prod.fst) i)<(x01.length:Int))) (
 some (x01.set ((at' (sources1.map Prod.fst) i).toNat) ((at' r_8.aA ((IntKind.wrap .i64 (((BitVec.ofInt (IntKind.bits .i64) (at' (sources1.map Prod.snd) i) ^^^ BitVec.ofInt (IntKind.bits .i64) 1).toNat:Int))).toNat)).left)))
def y7 (p2:(List Link)) (links1:(List (Int × Int))) (r_8:Network):(List Int)→Nat→Option (List Int):=
 fun x11 i1=>
 bA (((0:Int)≤(at' (links1.map Prod.fst) i1)∧(at' (links1.map Prod.fst) i1)<(p2.length:Int))∧((0:Int)≤(at' (links1.map Prod.snd) i1)∧(at' (links1.map Prod.snd) i1)<(r_8.aA.length:Int))∧((0:Int)≤(at' (links1.map Prod.fst) i1)∧(at' (links1.map Prod.fst) i1)<(x11.length:Int))) (
 some (x11.set ((at' (links1.map Prod.fst) i1).toNat) (IntKind.wrap .i64 (((at' p2 ((at' (links1.map Prod.fst) i1).toNat)).most) - ((at' r_8.aA ((at' (links1.map Prod.snd) i1).toNat)).left)))))
def yZ (racks1:(List (ai × Int))) (r_8:Network):(List ai)→Nat→Option (List ai):=
 fun x22 i2=>
 bif (decide ((at' (racks1.map Prod.fst) i2).e1=0))then
 bA (((0:Int)≤(IntKind.wrap .i64 (((BitVec.ofInt (IntKind.bits .i64) (at' (racks1.map Prod.snd) i2) ^^^ BitVec.ofInt (IntKind.bits .i64) 1).toNat:Int)))∧(IntKind.wrap .i64 (((BitVec.ofInt (IntKind.bits .i64) (at' (racks1.map Prod.snd) i2) ^^^ BitVec.ofInt (IntKind.bits .i64) 1).toNat:Int)))<(r_8.aA.length:Int))∧((0:Int)≤(at' (racks1.map Prod.fst) i2).e0∧(at' (racks1.map Prod.fst) i2).e0<(x22.length:Int))) (
 some (x22.set (((at' (racks1.map Prod.fst) i2).e0).toNat) (⟨(at' r_8.aA ((IntKind.wrap .i64 (((BitVec.ofInt (IntKind.bits .i64) (at' (racks1.map Prod.snd) i2) ^^^ BitVec.ofInt (IntKind.bits .i64) 1).toNat:Int))).toNat)).left,(at' x22 (((at' (racks1.map Prod.fst) i2).e0).toNat)).e1⟩:ai)))
 else
 bA ((at' (racks1.map Prod.fst) i2).e1=1) (
 bA (((0:Int)≤(IntKind.wrap .i64 (((BitVec.ofInt (IntKind.bits .i64) (at' (racks1.map Prod.snd) i2) ^^^ BitVec.ofInt (IntKind.bits .i64) 1).toNat:Int)))∧(IntKind.wrap .i64 (((BitVec.ofInt (IntKind.bits .i64) (at' (racks1.map Prod.snd) i2) ^^^ BitVec.ofInt (IntKind.bits .i64) 1).toNat:Int)))<(r_8.aA.length:Int))∧((0:Int)≤(at' (racks1.map Prod.fst) i2).e0∧(at' (racks1.map Prod.fst) i2).e0<(x22.length:Int))) (
 some (x22.set (((at' (racks1.map Prod.fst) i2).e0).toNat) (⟨(at' x22 (((at' (racks1.map Prod.fst) i2).e0).toNat)).e0,(at' r_8.aA ((IntKind.wrap .i64 (((BitVec.ofInt (IntKind.bits .i64) (at' (racks1.map Prod.snd) i2) ^^^ BitVec.ofInt (IntKind.bits .i64) 1).toNat:Int))).toNat)).left⟩:ai))))
def yu (p:au) (s_:State):Option (gV × (List Bool) × Int):=
 (bV p s_).bind fun r_=>
 bif (!decide (r_=0))then
 some ((⟨([]:List Int),([]:List Int),([]:List ai)⟩:gV),([]:List Bool),r_)
 else
 bA (((0:Int)≤(IntKind.wrap .i64 ((IntKind.wrap .i64 ((IntKind.wrap .i64 ((1:Int)+p.buses))+(p.racks.length:Int)))+1)))∧((24:Int)*(IntKind.wrap .i64 ((IntKind.wrap .i64 ((IntKind.wrap .i64 ((1:Int)+p.buses))+(p.racks.length:Int)))+1))≤281474976710656)∧(((IntKind.wrap .i64 ((IntKind.wrap .i64 ((IntKind.wrap .i64 ((1:Int)+p.buses))+(p.racks.length:Int)))+1)):Int)≤9223372036854775807)) (
 bA (((0:Int)≤(p.sources.length:Int))∧((8:Int)*(p.sources.length:Int)≤281474976710656)∧(((p.sources.length:Int):Int)≤9223372036854775807)∧((0:Int)≤(p.links.length:Int))∧((8:Int)*(p.links.length:Int)≤281474976710656)∧(((p.links.length:Int):Int)≤9223372036854775807)∧((0:Int)≤(p.racks.length:Int))∧((16:Int)*(p.racks.length:Int)≤281474976710656)∧(((p.racks.length:Int):Int)≤9223372036854775807)) (
 Option.bind (aN (zf p s_) FUEL (([]:List dK),(List.replicate ((IntKind.wrap .i64 ((IntKind.wrap .i64 ((IntKind.wrap .i64 ((1:Int)+p.buses))+(p.racks.length:Int)))+1)).toNat) (([]:List Int):(List Int))),([]:(List (Int × Int))),0)) fun o=>match o with
 | .ret v=>some v
 | .brk (p1,n01,n11,x0,sources1)=>
 Option.bind (aN (zh p s_ p1) FUEL (n01,n11,([]:(List (Int × Int))),0)) fun o=>match o with
 | .ret v=>some v
 | .brk (p2,n03,n13,x1,links1)=>
 Option.bind (aN (yR p s_) FUEL (p.racks,(IntKind.wrap .i64 ((IntKind.wrap .i64 ((1:Int)+p.buses))+(p.racks.length:Int))),n03,n13,(List.replicate ((p.racks.length:Int).toNat) ((⟨0,0⟩:ai):ai)),([]:(List (ai × Int))),p.racks,(p.racks.length:Int),0)) fun o=>match o with
 | .ret v=>some v
 | .brk (p31,sink1,n05,n15,x21,racks1)=>
 (rq sink1 (⟨n05,n15⟩:Network)).bind fun r_8=>
 Option.bind (Cr (yO sources1 r_8) sources1.length (List.range sources1.length) (x0)) fun x02=>
 Option.bind (Cr (y7 p2 links1 r_8) links1.length (List.range links1.length) (x1)) fun x12=>
 Option.bind (Cr (yZ racks1 r_8) racks1.length (List.range racks1.length) (x21)) fun x23=>
 bA (((0:Int)≤p.buses)∧((1:Int)*p.buses≤281474976710656)∧((p.buses:Int)≤9223372036854775807)) (
 (ko r_8).bind fun r_9=>
 (lg r_8.aA r_8.from_ (⟨p.buses,p1,p2,p31⟩:au) (List.replicate p.buses.toNat (false:Bool))).bind fun r_10=>
 some ((⟨x02,x12,x23⟩:gV),r_10,0))))
def FH (x:gV):(Int × Int)→Option (bL (Int × Int) (Ex Int Int)):=
 fun zz=>match zz with
 |(n,t9)=>
 bif (decide (t9<(x.racks.length:Int)))then
 bA ((0:Int)≤t9∧t9<(x.racks.length:Int)) (
 some (.next ((IntKind.wrap .i64 (n+(IntKind.wrap .i64 (((at' x.racks t9.toNat).e0)+((at' x.racks t9.toNat).e1))))),(IntKind.wrap .i64 (t9+1)))))
 else
 some (.done (.brk n))
def BZ (x:gV):Option Int:=
 Option.bind (aN (FH x) FUEL (0,0)) fun o=>match o with
 | .ret v=>some v
 | .brk n1=>
 some n1
def F4:Option (au × State):=
 some ((⟨2,[(⟨0,1,9,0,10⟩:Source)],[(⟨0,1,3,9,10,([]:List qQ)⟩:Link)],[(⟨(⟨1,(-1)⟩:ai),5,1⟩:aU)]⟩:au),(⟨[true],[false],[false],[true],[false],[false,false],[false,false]⟩:State))
def tX (i:Int) (x1:Int):Option Bool:=
 some (bif (decide (i<0))then true else(decide (x1≤i)))
def wL (s_:(List Int)) (f_:Int):Int→Option (bL Int (Ex Unit Int)):=
 fun t8=>
 bif (decide (t8<(s_.length:Int)))then
 (tX (at' s_ t8.toNat) f_).bind fun r_=>
 bA ((0:Int)≤t8∧t8<(s_.length:Int)) (
 bif r_ then
 some (.done (.ret t8))
 else
 some (.next (IntKind.wrap .i64 (t8+1))))
 else
 some (.done (.brk ()))
def pR (s_:(List Int)) (f_:Int):Option Int:=
 Option.bind (aN (wL s_ f_) FUEL (0)) fun o=>match o with
 | .ret v=>some v
 | .brk _=>
 some (-1)
def mW (s_:(List Int)) (f_:Int):Option Bool:=
 (pR s_ f_).bind fun r_=>
 some (decide (0≤r_))
def p9 (l:(List Int)) (n:Int):Option Bool:=
 (bif gB [((decide ((l.length:Int)≤24)),true)]then mW l n else some default).bind fun r_=>
 some (bif (decide ((l.length:Int)≤24))then(!r_)else false)
def uq (p:au) (x:aJ):Option Bool:=
 bif (decide (x.deed=1))then
 bif (decide (x.deed=1))then
 bA (gB [((bif (decide (0≤x.index))then(decide (x.index<(p.links.length:Int)))else false),true)]=true→(0:Int)≤x.index∧x.index<(p.links.length:Int)) (
 some (bif (bif (decide (0≤x.index))then(decide (x.index<(p.links.length:Int)))else false)then(!decide (((at' p.links x.index.toNat).kind)=1))else false))
 else
 bif (decide (x.deed=3))then
 bif (decide (x.deed=3))then
 some (bif (decide (0≤x.index))then(decide (x.index<p.buses))else false)
 else
 bif (decide (x.deed=7))then
 bif (decide (x.deed=7))then
 some (bif (decide (0≤x.index))then(decide (x.index<(p.sources.length:Int)))else false)
 else
 bA (gB [((bif (decide (0≤x.index))then(decide (x.index<0))else false),true)]=true→(0:Int)≤x.index∧x.index<(p.links.length:Int)) (
 some (bif (bif (decide (0≤x.index))then(decide (x.index<0))else false)then(!decide (((at' p.links x.index.toNat).kind)=1))else false))
 else
 bif (decide (x.deed=8))then
 some (bif (decide (0≤x.index))then(decide (x.index<(p.sources.length:Int)))else false)
 else
 bA (gB [((bif (decide (0≤x.index))then(decide (x.index<0))else false),true)]=true→(0:Int)≤x.index∧x.index<(p.links.length:Int)) (
 some (bif (bif (decide (0≤x.index))then(decide (x.index<0))else false)then(!decide (((at' p.links x.index.toNat).kind)=1))else false))
 else
 bif (decide (x.deed=4))then
 some (bif (decide (0≤x.index))then(decide (x.index<p.buses))else false)
 else
 bif (decide (x.deed=7))then
 bif (decide (x.deed=7))then
 some (bif (decide (0≤x.index))then(decide (x.index<(p.sources.length:Int)))else false)
 else
 bA (gB [((bif (decide (0≤x.index))then(decide (x.index<0))else false),true)]=true→(0:Int)≤x.index∧x.index<(p.links.length:Int)) (
 some (bif (bif (decide (0≤x.index))then(decide (x.index<0))else false)then(!decide (((at' p.links x.index.toNat).kind)=1))else false))
 else
 bif (decide (x.deed=8))then
 some (bif (decide (0≤x.index))then(decide (x.index<(p.sources.length:Int)))else false)
 else
 bA (gB [((bif (decide (0≤x.index))then(decide (x.index<0))else false),true)]=true→(0:Int)≤x.index∧x.index<(p.links.length:Int)) (
 some (bif (bif (decide (0≤x.index))then(decide (x.index<0))else false)then(!decide (((at' p.links x.index.toNat).kind)=1))else false))
 else
 bif (decide (x.deed=2))then
 bif (decide (x.deed=2))then
 bA (gB [((bif (decide (0≤x.index))then(decide (x.index<(p.links.length:Int)))else false),true)]=true→(0:Int)≤x.index∧x.index<(p.links.length:Int)) (
 some (bif (bif (decide (0≤x.index))then(decide (x.index<(p.links.length:Int)))else false)then(!decide (((at' p.links x.index.toNat).kind)=1))else false))
 else
 bif (decide (x.deed=3))then
 bif (decide (x.deed=3))then
 some (bif (decide (0≤x.index))then(decide (x.index<p.buses))else false)
 else
 bif (decide (x.deed=7))then
 bif (decide (x.deed=7))then
 some (bif (decide (0≤x.index))then(decide (x.index<(p.sources.length:Int)))else false)
 else
 bA (gB [((bif (decide (0≤x.index))then(decide (x.index<0))else false),true)]=true→(0:Int)≤x.index∧x.index<(p.links.length:Int)) (
 some (bif (bif (decide (0≤x.index))then(decide (x.index<0))else false)then(!decide (((at' p.links x.index.toNat).kind)=1))else false))
 else
 bif (decide (x.deed=8))then
 some (bif (decide (0≤x.index))then(decide (x.index<(p.sources.length:Int)))else false)
 else
 bA (gB [((bif (decide (0≤x.index))then(decide (x.index<0))else false),true)]=true→(0:Int)≤x.index∧x.index<(p.links.length:Int)) (
 some (bif (bif (decide (0≤x.index))then(decide (x.index<0))else false)then(!decide (((at' p.links x.index.toNat).kind)=1))else false))
 else
 bif (decide (x.deed=4))then
 some (bif (decide (0≤x.index))then(decide (x.index<p.buses))else false)
 else
 bif (decide (x.deed=7))then
 bif (decide (x.deed=7))then
 some (bif (decide (0≤x.index))then(decide (x.index<(p.sources.length:Int)))else false)
 else
 bA (gB [((bif (decide (0≤x.index))then(decide (x.index<0))else false),true)]=true→(0:Int)≤x.index∧x.index<(p.links.length:Int)) (
 some (bif (bif (decide (0≤x.index))then(decide (x.index<0))else false)then(!decide (((at' p.links x.index.toNat).kind)=1))else false))
 else
 bif (decide (x.deed=8))then
 some (bif (decide (0≤x.index))then(decide (x.index<(p.sources.length:Int)))else false)
 else
 bA (gB [((bif (decide (0≤x.index))then(decide (x.index<0))else false),true)]=true→(0:Int)≤x.index∧x.index<(p.links.length:Int)) (
 some (bif (bif (decide (0≤x.index))then(decide (x.index<0))else false)then(!decide (((at' p.links x.index.toNat).kind)=1))else false))
 else
 bif (decide (x.deed=5))then
 bif (decide (x.deed=5))then
 bA (gB [((bif (decide (0≤x.index))then(decide (x.index<(p.links.length:Int)))else false),true)]=true→(0:Int)≤x.index∧x.index<(p.links.length:Int)) (
 some (bif (bif (decide (0≤x.index))then(decide (x.index<(p.links.length:Int)))else false)then(!decide (((at' p.links x.index.toNat).kind)=1))else false))
 else
 bif (decide (x.deed=3))then
 bif (decide (x.deed=3))then
 some (bif (decide (0≤x.index))then(decide (x.index<p.buses))else false)
 else
 bif (decide (x.deed=7))then
 bif (decide (x.deed=7))then
 some (bif (decide (0≤x.index))then(decide (x.index<(p.sources.length:Int)))else false)
 else
 bA (gB [((bif (decide (0≤x.index))then(decide (x.index<0))else false),true)]=true→(0:Int)≤x.index∧x.index<(p.links.length:Int)) (
 some (bif (bif (decide (0≤x.index))then(decide (x.index<0))else false)then(!decide (((at' p.links x.index.toNat).kind)=1))else false))
 else
 bif (decide (x.deed=8))then
 some (bif (decide (0≤x.index))then(decide (x.index<(p.sources.length:Int)))else false)
 else
 bA (gB [((bif (decide (0≤x.index))then(decide (x.index<0))else false),true)]=true→(0:Int)≤x.index∧x.index<(p.links.length:Int)) (
 some (bif (bif (decide (0≤x.index))then(decide (x.index<0))else false)then(!decide (((at' p.links x.index.toNat).kind)=1))else false))
 else
 bif (decide (x.deed=4))then
 some (bif (decide (0≤x.index))then(decide (x.index<p.buses))else false)
 else
 bif (decide (x.deed=7))then
 bif (decide (x.deed=7))then
 some (bif (decide (0≤x.index))then(decide (x.index<(p.sources.length:Int)))else false)
 else
 bA (gB [((bif (decide (0≤x.index))then(decide (x.index<0))else false),true)]=true→(0:Int)≤x.index∧x.index<(p.links.length:Int)) (
 some (bif (bif (decide (0≤x.index))then(decide (x.index<0))else false)then(!decide (((at' p.links x.index.toNat).kind)=1))else false))
 else
 bif (decide (x.deed=8))then
 some (bif (decide (0≤x.index))then(decide (x.index<(p.sources.length:Int)))else false)
 else
 bA (gB [((bif (decide (0≤x.index))then(decide (x.index<0))else false),true)]=true→(0:Int)≤x.index∧x.index<(p.links.length:Int)) (
 some (bif (bif (decide (0≤x.index))then(decide (x.index<0))else false)then(!decide (((at' p.links x.index.toNat).kind)=1))else false))
 else
 bif (decide (x.deed=6))then
 bA (gB [((bif (decide (0≤x.index))then(decide (x.index<(p.links.length:Int)))else false),true)]=true→(0:Int)≤x.index∧x.index<(p.links.length:Int)) (
 some (bif (bif (decide (0≤x.index))then(decide (x.index<(p.links.length:Int)))else false)then(!decide (((at' p.links x.index.toNat).kind)=1))else false))
 else
 bif (decide (x.deed=3))then
 bif (decide (x.deed=3))then
 some (bif (decide (0≤x.index))then(decide (x.index<p.buses))else false)
 else
 bif (decide (x.deed=7))then
 bif (decide (x.deed=7))then
 some (bif (decide (0≤x.index))then(decide (x.index<(p.sources.length:Int)))else false)
 else
 bA (gB [((bif (decide (0≤x.index))then(decide (x.index<0))else false),true)]=true→(0:Int)≤x.index∧x.index<(p.links.length:Int)) (
 some (bif (bif (decide (0≤x.index))then(decide (x.index<0))else false)then(!decide (((at' p.links x.index.toNat).kind)=1))else false))
 else
 bif (decide (x.deed=8))then
 some (bif (decide (0≤x.index))then(decide (x.index<(p.sources.length:Int)))else false)
 else
 bA (gB [((bif (decide (0≤x.index))then(decide (x.index<0))else false),true)]=true→(0:Int)≤x.index∧x.index<(p.links.length:Int)) (
 some (bif (bif (decide (0≤x.index))then(decide (x.index<0))else false)then(!decide (((at' p.links x.index.toNat).kind)=1))else false))
 else
 bif (decide (x.deed=4))then
 some (bif (decide (0≤x.index))then(decide (x.index<p.buses))else false)
 else
 bif (decide (x.deed=7))then
 bif (decide (x.deed=7))then
 some (bif (decide (0≤x.index))then(decide (x.index<(p.sources.length:Int)))else false)
 else
 bA (gB [((bif (decide (0≤x.index))then(decide (x.index<0))else false),true)]=true→(0:Int)≤x.index∧x.index<(p.links.length:Int)) (
 some (bif (bif (decide (0≤x.index))then(decide (x.index<0))else false)then(!decide (((at' p.links x.index.toNat).kind)=1))else false))
 else
 bif (decide (x.deed=8))then
 some (bif (decide (0≤x.index))then(decide (x.index<(p.sources.length:Int)))else false)
 else
 bA (gB [((bif (decide (0≤x.index))then(decide (x.index<0))else false),true)]=true→(0:Int)≤x.index∧x.index<(p.links.length:Int)) (
 some (bif (bif (decide (0≤x.index))then(decide (x.index<0))else false)then(!decide (((at' p.links x.index.toNat).kind)=1))else false))
def tF (x:aJ) (x1:Int) (x11:(List Source)) (x12:(List Link)) (x13:(List aU)):Option Bool:=
 (uq (⟨x1,x11,x12,x13⟩:au) x).bind fun r_=>
 some (!r_)
def xh (s_:(List aJ)) (f_:Int) (f_1:(List Source)) (f_2:(List Link)) (f_3:(List aU)):Int→Option (bL Int (Ex Unit Int)):=
 fun t8=>
 bif (decide (t8<(s_.length:Int)))then
 (tF (at' s_ t8.toNat) f_ f_1 f_2 f_3).bind fun r_=>
 bA ((0:Int)≤t8∧t8<(s_.length:Int)) (
 bif r_ then
 some (.done (.ret t8))
 else
 some (.next (IntKind.wrap .i64 (t8+1))))
 else
 some (.done (.brk ()))
def pM (s_:(List aJ)) (f_:Int) (f_1:(List Source)) (f_2:(List Link)) (f_3:(List aU)):Option Int:=
 Option.bind (aN (xh s_ f_ f_1 f_2 f_3) FUEL (0)) fun o=>match o with
 | .ret v=>some v
 | .brk _=>
 some (-1)
def mU (s_:(List aJ)) (f_:Int) (f_1:(List Source)) (f_2:(List Link)) (f_3:(List aU)):Option Bool:=
 (pM s_ f_ f_1 f_2 f_3).bind fun r_=>
 some (decide (0≤r_))
def qm (l:(List aJ)) (x1:Int) (x11:(List Source)) (x12:(List Link)) (x13:(List aU)):Option Bool:=
 (bif gB [((decide ((l.length:Int)≤24)),true)]then mU l x1 x11 x12 x13 else some default).bind fun r_=>
 some (bif (decide ((l.length:Int)≤24))then(!r_)else false)
def Af (p:au) (t:Task):Option Bool:=
 (p9 t.fed (p.racks.length:Int)).bind fun r_=>
 (bif gB [(r_,true)]then p9 t.crew p.buses else some default).bind fun r_1=>
 (bif gB [((bif r_ then r_1 else false),true)]then qm t.allowed p.buses p.sources p.links p.racks else some default).bind fun r_2=>
 (bif gB [((bif (bif r_ then r_1 else false)then r_2 else false),true)]then qm t.goal p.buses p.sources p.links p.racks else some default).bind fun r_3=>
 some (bif (bif (bif r_ then r_1 else false)then r_2 else false)then r_3 else false)
def nN (p:au) (s_:State):Option (Int × (List Source) × (List Link) × (List aU) × (List Bool) × (List Bool) × (List Bool) × (List Bool) × (List Bool) × (List Bool) × (List Bool)):=
 some (p.buses,p.sources,p.links,p.racks,s_.closed,s_.locked,s_.badLink,s_.on_,s_.badSource,s_.earthed,s_.badBus)
def fE (g:bR):Int→Option (bL Int (Ex Unit Int)):=
 fun x1=>
 bif (!((bN bn x1 g.head).isSome))then
 some (.done (.ret x1))
 else
 some (.next ((bN bn x1 g.head).getD 0))
def dM (g:bR) (x:Int):Option Int:=
 Option.bind (aN (fE g) FUEL (x)) fun o=>match o with
 | .ret v=>some v
 | .brk _=>none
def jR (g:bR) (a:Int) (b:Int):Option (List (Int × Int)):=
 (dM g a).bind fun r_=>
 (dM g b).bind fun r_1=>
 bif (!decide (r_=r_1))then
 some (dG bn r_ r_1 g.head)
 else
 some g.head
def lY (x22:Int) (x221:Int) (x222:Int) (x223:Int) (x224:Int) (x225:(List qQ)) (o_:bR):Option bR:=
 (jR o_ x22 x221).bind fun r_=>
 some (⟨r_⟩:bR)
def dW (x12:(List Link)) (x2:(List Bool)) (x22:(List Bool)) (x26:(List Bool)):((List (Int × Int)) × Int)→Option (bL ((List (Int × Int)) × Int) (Ex (List (Int × Int)) bR)):=
 fun zz=>match zz with
 |(o50,t9)=>
 bif (decide (t9<(x12.length:Int)))then
 bA ((0:Int)≤t9∧t9<(x12.length:Int)) (
 bif (bif (bif (bif (at' x2 t9.toNat)then(!(at' x22 t9.toNat))else false)then(!(at' x26 (((at' x12 t9.toNat).a).toNat)))else false)then(!(at' x26 (((at' x12 t9.toNat).b).toNat)))else false)then
 (lY ((at' x12 t9.toNat).a) ((at' x12 t9.toNat).b) ((at' x12 t9.toNat).kind) ((at' x12 t9.toNat).most) ((at' x12 t9.toNat).fq) ((at' x12 t9.toNat).trip) (⟨o50⟩:bR)).bind fun r_=>
 bA (((0:Int)≤t9∧t9<(x2.length:Int))∧(gB [((at' x2 t9.toNat),true)]=true→(0:Int)≤t9∧t9<(x22.length:Int))∧(gB [((bif (at' x2 t9.toNat)then(!(at' x22 t9.toNat))else false),true)]=true→(0:Int)≤(at' x12 t9.toNat).a∧(at' x12 t9.toNat).a<(x26.length:Int))∧(gB [((bif (bif (at' x2 t9.toNat)then(!(at' x22 t9.toNat))else false)then(!(at' x26 (((at' x12 t9.toNat).a).toNat)))else false),true)]=true→(0:Int)≤(at' x12 t9.toNat).b∧(at' x12 t9.toNat).b<(x26.length:Int))) (
 some (.next (r_.head,(IntKind.wrap .i64 (t9+1)))))
 else
 bA (((0:Int)≤t9∧t9<(x2.length:Int))∧(gB [((at' x2 t9.toNat),true)]=true→(0:Int)≤t9∧t9<(x22.length:Int))∧(gB [((bif (at' x2 t9.toNat)then(!(at' x22 t9.toNat))else false),true)]=true→(0:Int)≤(at' x12 t9.toNat).a∧(at' x12 t9.toNat).a<(x26.length:Int))∧(gB [((bif (bif (at' x2 t9.toNat)then(!(at' x22 t9.toNat))else false)then(!(at' x26 (((at' x12 t9.toNat).a).toNat)))else false),true)]=true→(0:Int)≤(at' x12 t9.toNat).b∧(at' x12 t9.toNat).b<(x26.length:Int))) (
 some (.next (o50,(IntKind.wrap .i64 (t9+1))))))
 else
 some (.done (.brk o50))
def lQ (x1:Int) (x11:(List Source)) (x12:(List Link)) (x13:(List aU)) (x2:(List Bool)) (x21:(List Bool)) (x22:(List Bool)) (x23:(List Bool)) (x24:(List Bool)) (x25:(List Bool)) (x26:(List Bool)) (o_:bR):Option bR:=
 Option.bind (aN (dW x12 x2 x22 x26) FUEL (o_.head,0)) fun o=>match o with
 | .ret v=>some v
 | .brk o501=>
 some (⟨o501⟩:bR)
def gH (p:au) (s_:State) (r_1:bR):((List aT) × (List (Int × Int)) × Int)→Option (bL ((List aT) × (List (Int × Int)) × Int) (Ex ((List aT) × (List (Int × Int))) (List aT))):=
 fun zz=>match zz with
 |(out,at_,t32)=>
 bif (decide (t32<p.buses))then
 bA ((0:Int)≤t32∧t32<(s_.badBus.length:Int)) (
 bif (at' s_.badBus t32.toNat)then
 some (.next (out,at_,(IntKind.wrap .i64 (t32+1))))
 else
 (dM r_1 t32).bind fun r_2=>
 bif (!((bN bn r_2 at_).isSome))then
 bA (((out.length+[(⟨([]:List Int),([]:List Int)⟩:aT)].length)*48≤140737488355328)∧(out.length+[(⟨([]:List Int),([]:List Int)⟩:aT)].length≤4611686018427387904)) (
 bA (((0:Int)≤((bN bn r_2 (dG bn r_2 (out.length:Int) at_)).getD 0)∧((bN bn r_2 (dG bn r_2 (out.length:Int) at_)).getD 0)<((out++[(⟨([]:List Int),([]:List Int)⟩:aT)]).length:Int))∧((((at' (out++[(⟨([]:List Int),([]:List Int)⟩:aT)]) (((bN bn r_2 (dG bn r_2 (out.length:Int) at_)).getD 0).toNat)).buses).length+[t32].length)*8≤140737488355328)∧(((at' (out++[(⟨([]:List Int),([]:List Int)⟩:aT)]) (((bN bn r_2 (dG bn r_2 (out.length:Int) at_)).getD 0).toNat)).buses).length+[t32].length≤4611686018427387904)) (
 some (.next (((out++[(⟨([]:List Int),([]:List Int)⟩:aT)]).set (((bN bn r_2 (dG bn r_2 (out.length:Int) at_)).getD 0).toNat) (⟨(((at' (out++[(⟨([]:List Int),([]:List Int)⟩:aT)]) (((bN bn r_2 (dG bn r_2 (out.length:Int) at_)).getD 0).toNat)).buses)++[t32]),(at' (out++[(⟨([]:List Int),([]:List Int)⟩:aT)]) (((bN bn r_2 (dG bn r_2 (out.length:Int) at_)).getD 0).toNat)).sources⟩:aT)),(dG bn r_2 (out.length:Int) at_),(IntKind.wrap .i64 (t32+1))))))
 else
 bA (((0:Int)≤((bN bn r_2 at_).getD 0)∧((bN bn r_2 at_).getD 0)<(out.length:Int))∧((((at' out (((bN bn r_2 at_).getD 0).toNat)).buses).length+[t32].length)*8≤140737488355328)∧(((at' out (((bN bn r_2 at_).getD 0).toNat)).buses).length+[t32].length≤4611686018427387904)) (
 some (.next ((out.set (((bN bn r_2 at_).getD 0).toNat) (⟨(((at' out (((bN bn r_2 at_).getD 0).toNat)).buses)++[t32]),(at' out (((bN bn r_2 at_).getD 0).toNat)).sources⟩:aT)),at_,(IntKind.wrap .i64 (t32+1))))))
 else
 some (.done (.brk (out,at_)))
def gI (p:au) (s_:State) (r_1:bR) (at_1:(List (Int × Int))):((List aT) × Int)→Option (bL ((List aT) × Int) (Ex (List aT) (List aT))):=
 fun zz=>match zz with
 |(out2,t78)=>
 bif (decide (t78<(p.sources.length:Int)))then
 bA ((0:Int)≤t78∧t78<(p.sources.length:Int)) (
 bA (((0:Int)≤t78∧t78<(s_.on_.length:Int))∧(gB [((at' s_.on_ t78.toNat),true)]=true→(0:Int)≤t78∧t78<(s_.badSource.length:Int))∧(gB [((bif (at' s_.on_ t78.toNat)then(!(at' s_.badSource t78.toNat))else false),true)]=true→(0:Int)≤(at' p.sources t78.toNat).bus∧(at' p.sources t78.toNat).bus<(s_.badBus.length:Int))) (
 bif (bif (bif (at' s_.on_ t78.toNat)then(!(at' s_.badSource t78.toNat))else false)then(!(at' s_.badBus (((at' p.sources t78.toNat).bus).toNat)))else false)then
 (dM r_1 ((at' p.sources t78.toNat).bus)).bind fun r_3=>
 bA (((0:Int)≤((bN bn r_3 at_1).getD 0)∧((bN bn r_3 at_1).getD 0)<(out2.length:Int))∧((((at' out2 (((bN bn r_3 at_1).getD 0).toNat)).sources).length+[t78].length)*8≤140737488355328)∧(((at' out2 (((bN bn r_3 at_1).getD 0).toNat)).sources).length+[t78].length≤4611686018427387904)) (
 some (.next ((out2.set (((bN bn r_3 at_1).getD 0).toNat) (⟨(at' out2 (((bN bn r_3 at_1).getD 0).toNat)).buses,(((at' out2 (((bN bn r_3 at_1).getD 0).toNat)).sources)++[t78])⟩:aT)),(IntKind.wrap .i64 (t78+1)))))
 else
 some (.next (out2,(IntKind.wrap .i64 (t78+1))))))
 else
 some (.done (.brk out2))
def jh (p:au) (s_:State):Option (List aT):=
 (nN p s_).bind fun r_=>
 (lQ r_.1 r_.2.1 r_.2.2.1 r_.2.2.2.1 r_.2.2.2.2.1 r_.2.2.2.2.2.1 r_.2.2.2.2.2.2.1 r_.2.2.2.2.2.2.2.1 r_.2.2.2.2.2.2.2.2.1 r_.2.2.2.2.2.2.2.2.2.1 r_.2.2.2.2.2.2.2.2.2.2 (⟨([]:(List (Int × Int)))⟩:bR)).bind fun r_1=>
 Option.bind (aN (gH p s_ r_1) FUEL (([]:List aT),([]:(List (Int × Int))),0)) fun o=>match o with
 | .ret v=>some v
 | .brk (out1,at_1)=>
 Option.bind (aN (gI p s_ r_1 at_1) FUEL (out1,0)) fun o=>match o with
 | .ret v=>some v
 | .brk out3=>
 some out3
def kG (r_1:(List aT)) (t25:Int):((List Bool) × Int)→Option (bL ((List Bool) × Int) (Ex (List Bool) (bL ((List Bool) × Int) (Ex (List Bool) ((List Bool) × Int))))):=
 fun zz=>match zz with
 |(out2,t32)=>
 bif (decide (t32<(((at' r_1 t25.toNat).buses).length:Int)))then
 bA ((0:Int)≤t32∧t32<(((at' r_1 t25.toNat).buses).length:Int)) (
 bA ((0:Int)≤(at' ((at' r_1 t25.toNat).buses) t32.toNat)∧(at' ((at' r_1 t25.toNat).buses) t32.toNat)<(out2.length:Int)) (
 some (.next ((out2.set ((at' ((at' r_1 t25.toNat).buses) t32.toNat).toNat) (decide (0<(((at' r_1 t25.toNat).sources).length:Int)))),(IntKind.wrap .i64 (t32+1))))))
 else
 some (.done (.brk out2))
def kF (r_1:(List aT)):((List Bool) × Int)→Option (bL ((List Bool) × Int) (Ex (List Bool) ((List Bool) × Int))):=
 fun zz=>match zz with
 |(out,t25)=>
 bif (decide (t25<(r_1.length:Int)))then
 bA ((0:Int)≤t25∧t25<(r_1.length:Int)) (
 Option.bind (aN (kG r_1 t25) FUEL (out,0)) fun o=>match o with
 | .ret v=>some v
 | .brk out3=>
 some (.next (out3,(IntKind.wrap .i64 (t25+1)))))
 else
 some (.done (.brk out))
def iF (p:au) (s_:State):Option ((List Bool) × Int):=
 (bV p s_).bind fun r_=>
 bif (!decide (r_=0))then
 some (([]:List Bool),r_)
 else
 bA (((0:Int)≤p.buses)∧((1:Int)*p.buses≤281474976710656)∧((p.buses:Int)≤9223372036854775807)) (
 (jh p s_).bind fun r_1=>
 Option.bind (aN (kF r_1) FUEL ((List.replicate p.buses.toNat (false:Bool)),0)) fun o=>match o with
 | .ret v=>some v
 | .brk out1=>
 some (out1,0))
def j4 (p:au) (r_:((List Bool) × Int)):((List aZ) × Int)→Option (bL ((List aZ) × Int) (Ex (List aZ) ((List aZ) × Int))):=
 fun zz=>match zz with
 |(out,t26)=>
 bif (decide (t26<(p.racks.length:Int)))then
 bA ((0:Int)≤t26∧t26<(p.racks.length:Int)) (
 bA (gB [((decide (0≤(((at' p.racks t26.toNat).feeds).e0))),true)]=true→(0:Int)≤((at' p.racks t26.toNat).feeds).e0∧((at' p.racks t26.toNat).feeds).e0<(r_.1.length:Int)) (
 bA (gB [((decide (0≤(((at' p.racks t26.toNat).feeds).e1))),true)]=true→(0:Int)≤((at' p.racks t26.toNat).feeds).e1∧((at' p.racks t26.toNat).feeds).e1<(r_.1.length:Int)) (
 bA (((out.length+[(⟨(bif (decide (0≤(((at' p.racks t26.toNat).feeds).e0)))then(at' r_.1 ((((at' p.racks t26.toNat).feeds).e0).toNat))else false),(bif (decide (0≤(((at' p.racks t26.toNat).feeds).e1)))then(at' r_.1 ((((at' p.racks t26.toNat).feeds).e1).toNat))else false)⟩:aZ)].length)*2≤140737488355328)∧(out.length+[(⟨(bif (decide (0≤(((at' p.racks t26.toNat).feeds).e0)))then(at' r_.1 ((((at' p.racks t26.toNat).feeds).e0).toNat))else false),(bif (decide (0≤(((at' p.racks t26.toNat).feeds).e1)))then(at' r_.1 ((((at' p.racks t26.toNat).feeds).e1).toNat))else false)⟩:aZ)].length≤4611686018427387904)) (
 some (.next ((out++[(⟨(bif (decide (0≤(((at' p.racks t26.toNat).feeds).e0)))then(at' r_.1 ((((at' p.racks t26.toNat).feeds).e0).toNat))else false),(bif (decide (0≤(((at' p.racks t26.toNat).feeds).e1)))then(at' r_.1 ((((at' p.racks t26.toNat).feeds).e1).toNat))else false)⟩:aZ)]),(IntKind.wrap .i64 (t26+1))))))))
 else
 some (.done (.brk out))
def j6 (p:au) (s_:State):Option ((List aZ) × Int):=
 (iF p s_).bind fun r_=>
 bif (!decide (r_.2=0))then
 some (([]:List aZ),r_.2)
 else
 Option.bind (aN (j4 p r_) FUEL (([]:List aZ),0)) fun o=>match o with
 | .ret v=>some v
 | .brk out1=>
 some (out1,0)
def eO (x y:ai):Int:=if x.e0<y.e0 then -1 else if y.e0<x.e0 then 1 else if x.e1<y.e1 then -1 else if y.e1<x.e1 then 1 else 0
def vS (s:(List ai)):Option (List ai):=match s with
 |[]=>some []
 |x::xs=>bif decide ((x::xs).length<4611686018427387904)then some ((x::xs).mergeSort fun x y=> !decide (eO y x<0))else none
def CF (p:au) (r_1:(List aT)) (t24:Int) (t31:Int):((List ai) × Int)→Option (bL ((List ai) × Int) (Ex (List ai) (bL ((List ai) × Int) (Ex (List ai) (bL ((List ai) × Int) (Ex (List ai) ((List ai) × Int))))))):=
 fun zz=>match zz with
 |(out4,t42)=>
 bif (decide (t42<(((((at' r_1 t24.toNat).sources).length - ((IntKind.wrap .i64 (t31+1)).toNat)):Nat):Int)))then
 bA ((0:Int)≤t42∧t42<((((at' r_1 t24.toNat).sources).drop ((IntKind.wrap .i64 (t31+1)).toNat)).length:Int)) (
 bA (((0:Int)≤(at' ((at' r_1 t24.toNat).sources) t31.toNat)∧(at' ((at' r_1 t24.toNat).sources) t31.toNat)<(p.sources.length:Int))∧(gB [((decide (((at' p.sources ((at' ((at' r_1 t24.toNat).sources) t31.toNat).toNat)).sync)=0)),false)]=true→(0:Int)≤(at' ((at' r_1 t24.toNat).sources) t31.toNat)∧(at' ((at' r_1 t24.toNat).sources) t31.toNat)<(p.sources.length:Int))∧(gB [((decide (((at' p.sources ((at' ((at' r_1 t24.toNat).sources) t31.toNat).toNat)).sync)=0)),false)]=true→(0:Int)≤(at' (((at' r_1 t24.toNat).sources).drop ((IntKind.wrap .i64 (t31+1)).toNat)) t42.toNat)∧(at' (((at' r_1 t24.toNat).sources).drop ((IntKind.wrap .i64 (t31+1)).toNat)) t42.toNat)<(p.sources.length:Int))) (
 bif (bif (decide (((at' p.sources ((at' ((at' r_1 t24.toNat).sources) t31.toNat).toNat)).sync)=0))then true else(!decide (((at' p.sources ((at' ((at' r_1 t24.toNat).sources) t31.toNat).toNat)).sync)=((at' p.sources ((at' (((at' r_1 t24.toNat).sources).drop ((IntKind.wrap .i64 (t31+1)).toNat)) t42.toNat).toNat)).sync))))then
 bA (((out4.length+[(⟨(at' ((at' r_1 t24.toNat).sources) t31.toNat),(at' (((at' r_1 t24.toNat).sources).drop ((IntKind.wrap .i64 (t31+1)).toNat)) t42.toNat)⟩:ai)].length)*16≤140737488355328)∧(out4.length+[(⟨(at' ((at' r_1 t24.toNat).sources) t31.toNat),(at' (((at' r_1 t24.toNat).sources).drop ((IntKind.wrap .i64 (t31+1)).toNat)) t42.toNat)⟩:ai)].length≤4611686018427387904)) (
 some (.next ((out4++[(⟨(at' ((at' r_1 t24.toNat).sources) t31.toNat),(at' (((at' r_1 t24.toNat).sources).drop ((IntKind.wrap .i64 (t31+1)).toNat)) t42.toNat)⟩:ai)]),(IntKind.wrap .i64 (t42+1)))))
 else
 some (.next (out4,(IntKind.wrap .i64 (t42+1))))))
 else
 some (.done (.brk out4))
def Dv (p:au) (r_1:(List aT)) (t24:Int):((List ai) × Int)→Option (bL ((List ai) × Int) (Ex (List ai) (bL ((List ai) × Int) (Ex (List ai) ((List ai) × Int))))):=
 fun zz=>match zz with
 |(out2,t31)=>
 bif (decide (t31<(((at' r_1 t24.toNat).sources).length:Int)))then
 bA ((0:Int)≤t31∧t31<(((at' r_1 t24.toNat).sources).length:Int)) (
 bA ((0:Int)≤(IntKind.wrap .i64 (t31+1))∧(IntKind.wrap .i64 (t31+1))≤(((at' r_1 t24.toNat).sources).length:Int)) (
 Option.bind (aN (CF p r_1 t24 t31) FUEL (out2,0)) fun o=>match o with
 | .ret v=>some v
 | .brk out5=>
 some (.next (out5,(IntKind.wrap .i64 (t31+1))))))
 else
 some (.done (.brk out2))
def Dm (p:au) (r_1:(List aT)):((List ai) × Int)→Option (bL ((List ai) × Int) (Ex (List ai) ((List ai) × Int))):=
 fun zz=>match zz with
 |(out,t24)=>
 bif (decide (t24<(r_1.length:Int)))then
 bA ((0:Int)≤t24∧t24<(r_1.length:Int)) (
 Option.bind (aN (Dv p r_1 t24) FUEL (out,0)) fun o=>match o with
 | .ret v=>some v
 | .brk out3=>
 some (.next (out3,(IntKind.wrap .i64 (t24+1)))))
 else
 some (.done (.brk out))
def yT (p:au) (s_:State):Option ((List ai) × Int):=
 (bV p s_).bind fun r_=>
 bif (!decide (r_=0))then
 some (([]:List ai),r_)
 else
 (jh p s_).bind fun r_1=>
 Option.bind (aN (Dm p r_1) FUEL (([]:List ai),0)) fun o=>match o with
 | .ret v=>some v
 | .brk out1=>
 (vS out1).bind fun r_2=>
 bA (out1.length=r_2.length) (
 some (r_2,0))
def yU (r_:Int) (x1:(List aZ)):Option Bool:=
 bA (((0:Int)≤r_∧r_<(x1.length:Int))∧(gB [((!((at' x1 r_.toNat).e0)),true)]=true→(0:Int)≤r_∧r_<(x1.length:Int))) (
 some (bif (!((at' x1 r_.toNat).e0))then(!((at' x1 r_.toNat).e1))else false))
def rY (s_:(List Int)) (f_:(List aZ)):Int→Option (bL Int (Ex Unit Int)):=
 fun t8=>
 bif (decide (t8<(s_.length:Int)))then
 (yU (at' s_ t8.toNat) f_).bind fun r_=>
 bA ((0:Int)≤t8∧t8<(s_.length:Int)) (
 bif r_ then
 some (.done (.ret t8))
 else
 some (.next (IntKind.wrap .i64 (t8+1))))
 else
 some (.done (.brk ()))
def mQ (s_:(List Int)) (f_:(List aZ)):Option Int:=
 Option.bind (aN (rY s_ f_) FUEL (0)) fun o=>match o with
 | .ret v=>some v
 | .brk _=>
 some (-1)
def kX (s_:(List Int)) (f_:(List aZ)):Option Bool:=
 (mQ s_ f_).bind fun r_=>
 some (decide (0≤r_))
def Gz (p:au) (s_:State) (b:Int):Int→Option (bL Int (Ex Unit Bool)):=
 fun t22=>
 bif (decide (t22<(p.sources.length:Int)))then
 bA ((0:Int)≤t22∧t22<(p.sources.length:Int)) (
 bA (gB [((decide (((at' p.sources t22.toNat).bus)=b)),true)]=true→(0:Int)≤t22∧t22<(s_.on_.length:Int)) (
 bif (bif (decide (((at' p.sources t22.toNat).bus)=b))then(at' s_.on_ t22.toNat)else false)then
 some (.done (.ret false))
 else
 some (.next (IntKind.wrap .i64 (t22+1)))))
 else
 some (.done (.brk ()))
def GD (p:au) (s_:State) (t:Task) (b:Int):Int→Option (bL Int (Ex Unit Bool)):=
 fun t42=>
 bif (decide (t42<(p.links.length:Int)))then
 bA ((0:Int)≤t42∧t42<(p.links.length:Int)) (
 (bif gB [((bif (!decide (((at' p.links t42.toNat).a)=b))then(!decide (((at' p.links t42.toNat).b)=b))else false),false)]then dL t.crew (IntKind.wrap .i64 ((IntKind.wrap .i64 (((at' p.links t42.toNat).a)+((at' p.links t42.toNat).b))) - b))else some default).bind fun r_=>
 bif (bif (bif (!decide (((at' p.links t42.toNat).a)=b))then(!decide (((at' p.links t42.toNat).b)=b))else false)then true else r_)then
 some (.next (IntKind.wrap .i64 (t42+1)))
 else
 bA ((gB [((decide (((at' p.links t42.toNat).kind)=1)),false)]=true→(0:Int)≤t42∧t42<(s_.closed.length:Int))∧(gB [((bif (decide (((at' p.links t42.toNat).kind)=1))then true else(at' s_.closed t42.toNat)),false)]=true→(0:Int)≤t42∧t42<(s_.locked.length:Int))) (
 bif (bif (bif (decide (((at' p.links t42.toNat).kind)=1))then true else(at' s_.closed t42.toNat))then true else(!(at' s_.locked t42.toNat)))then
 some (.done (.ret false))
 else
 some (.next (IntKind.wrap .i64 (t42+1)))))
 else
 some (.done (.brk ()))
def EK (p:au) (s_:State) (t:Task) (b:Int):Option Bool:=
 bA ((0:Int)≤b∧b<(s_.earthed.length:Int)) (
 bif (!(at' s_.earthed b.toNat))then
 some false
 else
 Option.bind (aN (Gz p s_ b) FUEL (0)) fun o=>match o with
 | .ret v=>some v
 | .brk _=>
 Option.bind (aN (GD p s_ t b) FUEL (0)) fun o=>match o with
 | .ret v=>some v
 | .brk _=>
 some true)
def zb (b:Int) (x1:Int) (x11:(List Source)) (x12:(List Link)) (x13:(List aU)) (x2:(List Bool)) (x21:(List Bool)) (x22:(List Bool)) (x23:(List Bool)) (x24:(List Bool)) (x25:(List Bool)) (x26:(List Bool)) (x3:(List Int)) (x31:(List Int)) (x32:(List aJ)) (x33:(List aJ)):Option Bool:=
 (EK (⟨x1,x11,x12,x13⟩:au) (⟨x2,x21,x22,x23,x24,x25,x26⟩:State) (⟨x3,x31,x32,x33⟩:Task) b).bind fun r_=>
 some (!r_)
def rQ (s_:(List Int)) (f_:Int) (f_1:(List Source)) (f_2:(List Link)) (f_3:(List aU)) (f_4:(List Bool)) (f_5:(List Bool)) (f_6:(List Bool)) (f_7:(List Bool)) (f_8:(List Bool)) (f_9:(List Bool)) (f_10:(List Bool)) (f_11:(List Int)) (f_12:(List Int)) (f_13:(List aJ)) (f_14:(List aJ)):Int→Option (bL Int (Ex Unit Int)):=
 fun t8=>
 bif (decide (t8<(s_.length:Int)))then
 (zb (at' s_ t8.toNat) f_ f_1 f_2 f_3 f_4 f_5 f_6 f_7 f_8 f_9 f_10 f_11 f_12 f_13 f_14).bind fun r_=>
 bA ((0:Int)≤t8∧t8<(s_.length:Int)) (
 bif r_ then
 some (.done (.ret t8))
 else
 some (.next (IntKind.wrap .i64 (t8+1))))
 else
 some (.done (.brk ()))
def mJ (s_:(List Int)) (f_:Int) (f_1:(List Source)) (f_2:(List Link)) (f_3:(List aU)) (f_4:(List Bool)) (f_5:(List Bool)) (f_6:(List Bool)) (f_7:(List Bool)) (f_8:(List Bool)) (f_9:(List Bool)) (f_10:(List Bool)) (f_11:(List Int)) (f_12:(List Int)) (f_13:(List aJ)) (f_14:(List aJ)):Option Int:=
 Option.bind (aN (rQ s_ f_ f_1 f_2 f_3 f_4 f_5 f_6 f_7 f_8 f_9 f_10 f_11 f_12 f_13 f_14) FUEL (0)) fun o=>match o with
 | .ret v=>some v
 | .brk _=>
 some (-1)
def lm (s_:(List Int)) (f_:Int) (f_1:(List Source)) (f_2:(List Link)) (f_3:(List aU)) (f_4:(List Bool)) (f_5:(List Bool)) (f_6:(List Bool)) (f_7:(List Bool)) (f_8:(List Bool)) (f_9:(List Bool)) (f_10:(List Bool)) (f_11:(List Int)) (f_12:(List Int)) (f_13:(List aJ)) (f_14:(List aJ)):Option Bool:=
 (mJ s_ f_ f_1 f_2 f_3 f_4 f_5 f_6 f_7 f_8 f_9 f_10 f_11 f_12 f_13 f_14).bind fun r_=>
 some (decide (0≤r_))
def E5 (s_:State) (r_:((List Bool) × Int)):Int→Option (bL Int (Ex Unit Int)):=
 fun t23=>
 bif (decide (t23<(r_.1.length:Int)))then
 bA ((0:Int)≤t23∧t23<(r_.1.length:Int)) (
 bA (gB [((at' r_.1 t23.toNat),true)]=true→(0:Int)≤t23∧t23<(s_.earthed.length:Int)) (
 bif (bif (at' r_.1 t23.toNat)then(at' s_.earthed t23.toNat)else false)then
 some (.done (.ret 40))
 else
 some (.next (IntKind.wrap .i64 (t23+1)))))
 else
 some (.done (.brk ()))
def wO (p:au) (s_:State) (t:Task):Option Int:=
 (iF p s_).bind fun r_=>
 Option.bind (aN (E5 s_ r_) FUEL (0)) fun o=>match o with
 | .ret v=>some v
 | .brk _=>
 (yT p s_).bind fun r_1=>
 bif (decide (0<(r_1.1.length:Int)))then
 some 41
 else
 (j6 p s_).bind fun r_2=>
 (kX t.fed r_2.1).bind fun r_3=>
 bif r_3 then
 some 42
 else
 (lm t.crew p.buses p.sources p.links p.racks s_.closed s_.locked s_.badLink s_.on_ s_.badSource s_.earthed s_.badBus t.fed t.crew t.allowed t.goal).bind fun r_4=>
 bif r_4 then
 some 45
 else
 some 0
def Ci (p:au) (s_:State) (t:Task):Option Int:=
 (bV p s_).bind fun r_=>
 bif (!decide (r_=0))then
 some r_
 else
 (Af p t).bind fun r_1=>
 bif (!r_1)then
 some 1
 else
 (wO p s_ t).bind fun r_2=>
 some r_2
def oQ (s_:(List Bool)) (s_nn:Bool):Option (List Bool):=
 bif (!s_nn)then
 some ([]:List Bool)
 else
 bA (((([]:List Bool).length+s_.length)*1≤140737488355328)∧(([]:List Bool).length+s_.length≤4611686018427387904)) (
 some (([]:List Bool)++s_))
def aj (s:(List Bool)):Option (List Bool):=oQ s true
def Ay (s_:State):Option State:=
 bA ((0:Int)≤0∧0<(7:Int)) (
 (aj s_.closed).bind fun r_=>
 bA ((0:Int)≤1∧1<(7:Int)) (
 (aj s_.locked).bind fun r_1=>
 bA ((0:Int)≤2∧2<(7:Int)) (
 (aj s_.badLink).bind fun r_2=>
 bA ((0:Int)≤3∧3<(7:Int)) (
 (aj s_.on_).bind fun r_3=>
 bA ((0:Int)≤4∧4<(7:Int)) (
 (aj s_.badSource).bind fun r_4=>
 bA ((0:Int)≤5∧5<(7:Int)) (
 (aj s_.earthed).bind fun r_5=>
 bA ((0:Int)≤6∧6<(7:Int)) (
 (aj s_.badBus).bind fun r_6=>
 some (⟨r_,r_1,r_2,r_3,r_4,r_5,r_6⟩:State))))))))
def qf:Option Unit:=
 some ()
def qO (state:State):Option Unit:=
 some ()
def qP (state:State):Option Unit:=
 some ()
def qY (state:State):Option Unit:=
 some ()
def qX (state:State):Option Unit:=
 some ()
def yM (s_:State) (x:aJ):Option State:=
 (qf).bind fun r_=>
 bif (bn x.deed 1)then
 bA ((0:Int)≤0∧0<(7:Int)) (
 (aj s_.closed).bind fun r_1=>
 bA ((0:Int)≤1∧1<(7:Int)) (
 (aj s_.locked).bind fun r_2=>
 bA ((0:Int)≤2∧2<(7:Int)) (
 (aj s_.badLink).bind fun r_3=>
 bA ((0:Int)≤3∧3<(7:Int)) (
 (aj s_.on_).bind fun r_4=>
 bA ((0:Int)≤4∧4<(7:Int)) (
 (aj s_.badSource).bind fun r_5=>
 bA ((0:Int)≤5∧5<(7:Int)) (
 (aj s_.earthed).bind fun r_6=>
 bA ((0:Int)≤6∧6<(7:Int)) (
 (aj s_.badBus).bind fun r_7=>
 (qO (⟨r_1,r_2,r_3,r_4,r_5,r_6,r_7⟩:State)).bind fun r_8=>
 bA ((0:Int)≤x.index∧x.index<(r_1.length:Int)) (
 some (⟨(r_1.set x.index.toNat false),r_2,r_3,r_4,r_5,r_6,r_7⟩:State)))))))))
 else
 bif (bn x.deed 2)then
 bA ((0:Int)≤0∧0<(7:Int)) (
 (aj s_.closed).bind fun r_9=>
 bA ((0:Int)≤1∧1<(7:Int)) (
 (aj s_.locked).bind fun r_10=>
 bA ((0:Int)≤2∧2<(7:Int)) (
 (aj s_.badLink).bind fun r_11=>
 bA ((0:Int)≤3∧3<(7:Int)) (
 (aj s_.on_).bind fun r_12=>
 bA ((0:Int)≤4∧4<(7:Int)) (
 (aj s_.badSource).bind fun r_13=>
 bA ((0:Int)≤5∧5<(7:Int)) (
 (aj s_.earthed).bind fun r_14=>
 bA ((0:Int)≤6∧6<(7:Int)) (
 (aj s_.badBus).bind fun r_15=>
 (qO (⟨r_9,r_10,r_11,r_12,r_13,r_14,r_15⟩:State)).bind fun r_16=>
 bA ((0:Int)≤x.index∧x.index<(r_9.length:Int)) (
 some (⟨(r_9.set x.index.toNat true),r_10,r_11,r_12,r_13,r_14,r_15⟩:State)))))))))
 else
 bif (bn x.deed 3)then
 bA ((0:Int)≤0∧0<(7:Int)) (
 (aj s_.closed).bind fun r_17=>
 bA ((0:Int)≤1∧1<(7:Int)) (
 (aj s_.locked).bind fun r_18=>
 bA ((0:Int)≤2∧2<(7:Int)) (
 (aj s_.badLink).bind fun r_19=>
 bA ((0:Int)≤3∧3<(7:Int)) (
 (aj s_.on_).bind fun r_20=>
 bA ((0:Int)≤4∧4<(7:Int)) (
 (aj s_.badSource).bind fun r_21=>
 bA ((0:Int)≤5∧5<(7:Int)) (
 (aj s_.earthed).bind fun r_22=>
 bA ((0:Int)≤6∧6<(7:Int)) (
 (aj s_.badBus).bind fun r_23=>
 (qP (⟨r_17,r_18,r_19,r_20,r_21,r_22,r_23⟩:State)).bind fun r_24=>
 bA ((0:Int)≤x.index∧x.index<(r_22.length:Int)) (
 some (⟨r_17,r_18,r_19,r_20,r_21,(r_22.set x.index.toNat true),r_23⟩:State)))))))))
 else
 bif (bn x.deed 4)then
 bA ((0:Int)≤0∧0<(7:Int)) (
 (aj s_.closed).bind fun r_25=>
 bA ((0:Int)≤1∧1<(7:Int)) (
 (aj s_.locked).bind fun r_26=>
 bA ((0:Int)≤2∧2<(7:Int)) (
 (aj s_.badLink).bind fun r_27=>
 bA ((0:Int)≤3∧3<(7:Int)) (
 (aj s_.on_).bind fun r_28=>
 bA ((0:Int)≤4∧4<(7:Int)) (
 (aj s_.badSource).bind fun r_29=>
 bA ((0:Int)≤5∧5<(7:Int)) (
 (aj s_.earthed).bind fun r_30=>
 bA ((0:Int)≤6∧6<(7:Int)) (
 (aj s_.badBus).bind fun r_31=>
 (qP (⟨r_25,r_26,r_27,r_28,r_29,r_30,r_31⟩:State)).bind fun r_32=>
 bA ((0:Int)≤x.index∧x.index<(r_30.length:Int)) (
 some (⟨r_25,r_26,r_27,r_28,r_29,(r_30.set x.index.toNat false),r_31⟩:State)))))))))
 else
 bif (bn x.deed 5)then
 bA ((0:Int)≤0∧0<(7:Int)) (
 (aj s_.closed).bind fun r_33=>
 bA ((0:Int)≤1∧1<(7:Int)) (
 (aj s_.locked).bind fun r_34=>
 bA ((0:Int)≤2∧2<(7:Int)) (
 (aj s_.badLink).bind fun r_35=>
 bA ((0:Int)≤3∧3<(7:Int)) (
 (aj s_.on_).bind fun r_36=>
 bA ((0:Int)≤4∧4<(7:Int)) (
 (aj s_.badSource).bind fun r_37=>
 bA ((0:Int)≤5∧5<(7:Int)) (
 (aj s_.earthed).bind fun r_38=>
 bA ((0:Int)≤6∧6<(7:Int)) (
 (aj s_.badBus).bind fun r_39=>
 (qY (⟨r_33,r_34,r_35,r_36,r_37,r_38,r_39⟩:State)).bind fun r_40=>
 bA ((0:Int)≤x.index∧x.index<(r_34.length:Int)) (
 some (⟨r_33,(r_34.set x.index.toNat true),r_35,r_36,r_37,r_38,r_39⟩:State)))))))))
 else
 bif (bn x.deed 6)then
 bA ((0:Int)≤0∧0<(7:Int)) (
 (aj s_.closed).bind fun r_41=>
 bA ((0:Int)≤1∧1<(7:Int)) (
 (aj s_.locked).bind fun r_42=>
 bA ((0:Int)≤2∧2<(7:Int)) (
 (aj s_.badLink).bind fun r_43=>
 bA ((0:Int)≤3∧3<(7:Int)) (
 (aj s_.on_).bind fun r_44=>
 bA ((0:Int)≤4∧4<(7:Int)) (
 (aj s_.badSource).bind fun r_45=>
 bA ((0:Int)≤5∧5<(7:Int)) (
 (aj s_.earthed).bind fun r_46=>
 bA ((0:Int)≤6∧6<(7:Int)) (
 (aj s_.badBus).bind fun r_47=>
 (qY (⟨r_41,r_42,r_43,r_44,r_45,r_46,r_47⟩:State)).bind fun r_48=>
 bA ((0:Int)≤x.index∧x.index<(r_42.length:Int)) (
 some (⟨r_41,(r_42.set x.index.toNat false),r_43,r_44,r_45,r_46,r_47⟩:State)))))))))
 else
 bif (bn x.deed 7)then
 bA ((0:Int)≤0∧0<(7:Int)) (
 (aj s_.closed).bind fun r_49=>
 bA ((0:Int)≤1∧1<(7:Int)) (
 (aj s_.locked).bind fun r_50=>
 bA ((0:Int)≤2∧2<(7:Int)) (
 (aj s_.badLink).bind fun r_51=>
 bA ((0:Int)≤3∧3<(7:Int)) (
 (aj s_.on_).bind fun r_52=>
 bA ((0:Int)≤4∧4<(7:Int)) (
 (aj s_.badSource).bind fun r_53=>
 bA ((0:Int)≤5∧5<(7:Int)) (
 (aj s_.earthed).bind fun r_54=>
 bA ((0:Int)≤6∧6<(7:Int)) (
 (aj s_.badBus).bind fun r_55=>
 (qX (⟨r_49,r_50,r_51,r_52,r_53,r_54,r_55⟩:State)).bind fun r_56=>
 bA ((0:Int)≤x.index∧x.index<(r_52.length:Int)) (
 some (⟨r_49,r_50,r_51,(r_52.set x.index.toNat true),r_53,r_54,r_55⟩:State)))))))))
 else
 bif (bn x.deed 8)then
 bA ((0:Int)≤0∧0<(7:Int)) (
 (aj s_.closed).bind fun r_57=>
 bA ((0:Int)≤1∧1<(7:Int)) (
 (aj s_.locked).bind fun r_58=>
 bA ((0:Int)≤2∧2<(7:Int)) (
 (aj s_.badLink).bind fun r_59=>
 bA ((0:Int)≤3∧3<(7:Int)) (
 (aj s_.on_).bind fun r_60=>
 bA ((0:Int)≤4∧4<(7:Int)) (
 (aj s_.badSource).bind fun r_61=>
 bA ((0:Int)≤5∧5<(7:Int)) (
 (aj s_.earthed).bind fun r_62=>
 bA ((0:Int)≤6∧6<(7:Int)) (
 (aj s_.badBus).bind fun r_63=>
 (qX (⟨r_57,r_58,r_59,r_60,r_61,r_62,r_63⟩:State)).bind fun r_64=>
 bA ((0:Int)≤x.index∧x.index<(r_60.length:Int)) (
 some (⟨r_57,r_58,r_59,(r_60.set x.index.toNat false),r_61,r_62,r_63⟩:State)))))))))
 else
 bA ((0:Int)≤0∧0<(7:Int)) (
 (aj s_.closed).bind fun r_65=>
 bA ((0:Int)≤1∧1<(7:Int)) (
 (aj s_.locked).bind fun r_66=>
 bA ((0:Int)≤2∧2<(7:Int)) (
 (aj s_.badLink).bind fun r_67=>
 bA ((0:Int)≤3∧3<(7:Int)) (
 (aj s_.on_).bind fun r_68=>
 bA ((0:Int)≤4∧4<(7:Int)) (
 (aj s_.badSource).bind fun r_69=>
 bA ((0:Int)≤5∧5<(7:Int)) (
 (aj s_.earthed).bind fun r_70=>
 bA ((0:Int)≤6∧6<(7:Int)) (
 (aj s_.badBus).bind fun r_71=>
 none)))))))
def tK:Option Unit:=
 some ()
def vW (p:au) (s_:State) (x:aJ):Option Bool:=
 (uq p x).bind fun r_=>
 some (!r_)
def nI (s_:(List Bool)) (s_1:(List Bool)) (s_2:(List Bool)) (s_3:(List Bool)) (s_4:(List Bool)) (s_5:(List Bool)) (s_6:(List Bool)):Option ((List Bool) × (List Bool) × (List Bool) × (List Bool) × (List Bool) × (List Bool) × (List Bool)):=
 some (s_,s_1,s_2,s_3,s_4,s_5,s_6)
def nC (s_:(List Bool)) (s_1:(List Bool)) (s_2:(List Bool)) (s_3:(List Bool)) (s_4:(List Bool)) (s_5:(List Bool)) (s_6:(List Bool)):Option ((List Bool) × (List Bool) × (List Bool) × (List Bool) × (List Bool) × (List Bool) × (List Bool)):=
 some (s_,s_1,s_2,s_3,s_4,s_5,s_6)
def nG (s_:(List Bool)) (s_1:(List Bool)) (s_2:(List Bool)) (s_3:(List Bool)) (s_4:(List Bool)) (s_5:(List Bool)) (s_6:(List Bool)):Option ((List Bool) × (List Bool) × (List Bool) × (List Bool) × (List Bool) × (List Bool) × (List Bool)):=
 some (s_,s_1,s_2,s_3,s_4,s_5,s_6)
def nD (s_:(List Bool)) (s_1:(List Bool)) (s_2:(List Bool)) (s_3:(List Bool)) (s_4:(List Bool)) (s_5:(List Bool)) (s_6:(List Bool)):Option ((List Bool) × (List Bool) × (List Bool) × (List Bool) × (List Bool) × (List Bool) × (List Bool)):=
 some (s_,s_1,s_2,s_3,s_4,s_5,s_6)
def Cb (s_:State) (x:aJ):Option Bool:=
 (qf).bind fun r_=>
 bif (bn x.deed 1)then
 (nI s_.closed s_.locked s_.badLink s_.on_ s_.badSource s_.earthed s_.badBus).bind fun r_1=>
 bA ((0:Int)≤x.index∧x.index<(r_1.1.length:Int)) (
 some ((at' r_1.1 x.index.toNat)==false))
 else
 bif (bn x.deed 2)then
 (nI s_.closed s_.locked s_.badLink s_.on_ s_.badSource s_.earthed s_.badBus).bind fun r_2=>
 bA ((0:Int)≤x.index∧x.index<(r_2.1.length:Int)) (
 some ((at' r_2.1 x.index.toNat)==true))
 else
 bif (bn x.deed 3)then
 (nC s_.closed s_.locked s_.badLink s_.on_ s_.badSource s_.earthed s_.badBus).bind fun r_3=>
 bA ((0:Int)≤x.index∧x.index<(r_3.2.2.2.2.2.1.length:Int)) (
 some ((at' r_3.2.2.2.2.2.1 x.index.toNat)==true))
 else
 bif (bn x.deed 4)then
 (nC s_.closed s_.locked s_.badLink s_.on_ s_.badSource s_.earthed s_.badBus).bind fun r_4=>
 bA ((0:Int)≤x.index∧x.index<(r_4.2.2.2.2.2.1.length:Int)) (
 some ((at' r_4.2.2.2.2.2.1 x.index.toNat)==false))
 else
 bif (bn x.deed 5)then
 (nG s_.closed s_.locked s_.badLink s_.on_ s_.badSource s_.earthed s_.badBus).bind fun r_5=>
 bA ((0:Int)≤x.index∧x.index<(r_5.2.1.length:Int)) (
 some ((at' r_5.2.1 x.index.toNat)==true))
 else
 bif (bn x.deed 6)then
 (nG s_.closed s_.locked s_.badLink s_.on_ s_.badSource s_.earthed s_.badBus).bind fun r_6=>
 bA ((0:Int)≤x.index∧x.index<(r_6.2.1.length:Int)) (
 some ((at' r_6.2.1 x.index.toNat)==false))
 else
 bif (bn x.deed 7)then
 (nD s_.closed s_.locked s_.badLink s_.on_ s_.badSource s_.earthed s_.badBus).bind fun r_7=>
 bA ((0:Int)≤x.index∧x.index<(r_7.2.2.2.1.length:Int)) (
 some ((at' r_7.2.2.2.1 x.index.toNat)==true))
 else
 bif (bn x.deed 8)then
 (nD s_.closed s_.locked s_.badLink s_.on_ s_.badSource s_.earthed s_.badBus).bind fun r_8=>
 bA ((0:Int)≤x.index∧x.index<(r_8.2.2.2.1.length:Int)) (
 some ((at' r_8.2.2.2.1 x.index.toNat)==false))
 else
 none
def vR (p:au) (s_:State) (x:aJ):Option Bool:=
 (Cb s_ x).bind fun r_=>
 some r_
def mo (x:aJ):Option Bool:=
 some (bif (decide (x.deed=1))then true else(decide (x.deed=2)))
def D9 (x:aJ):Option Bool:=
 some (bif (decide (x.deed=7))then true else(decide (x.deed=8)))
def wo (p:au) (s_:State) (x:aJ):Option Bool:=
 (mo x).bind fun r_=>
 (bif gB [((bif r_ then(at' s_.badLink x.index.toNat)else false),false)]then D9 x else some default).bind fun r_1=>
 bA ((gB [(r_,true)]=true→(0:Int)≤x.index∧x.index<(s_.badLink.length:Int))∧(gB [(r_1,true),((bif r_ then(at' s_.badLink x.index.toNat)else false),false)]=true→(0:Int)≤x.index∧x.index<(s_.badSource.length:Int))) (
 some (bif (bif r_ then(at' s_.badLink x.index.toNat)else false)then true else(bif r_1 then(at' s_.badSource x.index.toNat)else false)))
def vZ (p:au) (s_:State) (x:aJ):Option Bool:=
 (mo x).bind fun r_=>
 bA (gB [(r_,true)]=true→(0:Int)≤x.index∧x.index<(s_.locked.length:Int)) (
 some (bif r_ then(at' s_.locked x.index.toNat)else false))
def qU (p:au) (s_:State):Option ((List aT) × Int):=
 (bV p s_).bind fun r_=>
 bif (!decide (r_=0))then
 some (([]:List aT),r_)
 else
 (jh p s_).bind fun r_1=>
 some (r_1,0)
def xw (x:aT) (x1:Int):Option Bool:=
 (dL x.buses x1).bind fun r_=>
 some r_
def wK (s_:(List aT)) (f_:Int):Int→Option (bL Int (Ex Unit Int)):=
 fun t8=>
 bif (decide (t8<(s_.length:Int)))then
 (xw (at' s_ t8.toNat) f_).bind fun r_=>
 bA ((0:Int)≤t8∧t8<(s_.length:Int)) (
 bif r_ then
 some (.done (.ret t8))
 else
 some (.next (IntKind.wrap .i64 (t8+1))))
 else
 some (.done (.brk ()))
def pJ (s_:(List aT)) (f_:Int):Option Int:=
 Option.bind (aN (wK s_ f_) FUEL (0)) fun o=>match o with
 | .ret v=>some v
 | .brk _=>
 some (-1)
def lM (b:Int) (x1:(List aT)):Option Int:=
 (pJ x1 b).bind fun r_=>
 some r_
def D7 (p:au) (s_:State) (i:Int):Option Bool:=
 bA ((0:Int)≤i∧i<(s_.closed.length:Int)) (
 bif (at' s_.closed i.toNat)then
 (yM s_ (⟨1,i⟩:aJ)).bind fun r_=>
 (qU p r_).bind fun r_1=>
 (lM ((at' p.links i.toNat).a) r_1.1).bind fun r_2=>
 (lM ((at' p.links i.toNat).b) r_1.1).bind fun r_3=>
 bA ((0:Int)≤i∧i<(p.links.length:Int)) (
 bA ((gB [((bif (bif (decide (0≤r_2))then(decide (0≤r_3))else false)then(!decide (r_2=r_3))else false),true)]=true→(0:Int)≤r_2∧r_2<(r_1.1.length:Int))∧(gB [((bif (bif (decide (0≤r_2))then(decide (0≤r_3))else false)then(!decide (r_2=r_3))else false),true)]=true→(0:Int)≤r_3∧r_3<(r_1.1.length:Int))) (
 some (bif (bif (bif (decide (0≤r_2))then(decide (0≤r_3))else false)then(!decide (r_2=r_3))else false)then(decide (0<(IntKind.wrap .i64 ((((at' r_1.1 r_2.toNat).sources).length:Int)+(((at' r_1.1 r_3.toNat).sources).length:Int)))))else false)))
 else
 (qU p s_).bind fun r_4=>
 (lM ((at' p.links i.toNat).a) r_4.1).bind fun r_5=>
 (lM ((at' p.links i.toNat).b) r_4.1).bind fun r_6=>
 bA ((0:Int)≤i∧i<(p.links.length:Int)) (
 bA ((gB [((bif (bif (decide (0≤r_5))then(decide (0≤r_6))else false)then(!decide (r_5=r_6))else false),true)]=true→(0:Int)≤r_5∧r_5<(r_4.1.length:Int))∧(gB [((bif (bif (decide (0≤r_5))then(decide (0≤r_6))else false)then(!decide (r_5=r_6))else false),true)]=true→(0:Int)≤r_6∧r_6<(r_4.1.length:Int))) (
 some (bif (bif (bif (decide (0≤r_5))then(decide (0≤r_6))else false)then(!decide (r_5=r_6))else false)then(decide (0<(IntKind.wrap .i64 ((((at' r_4.1 r_5.toNat).sources).length:Int)+(((at' r_4.1 r_6.toNat).sources).length:Int)))))else false))))
def vV (p:au) (s_:State) (x:aJ):Option Bool:=
 (mo x).bind fun r_=>
 (bif gB [((bif r_ then(decide (((at' p.links x.index.toNat).kind)=2))else false),true)]then D7 p s_ x.index else some default).bind fun r_1=>
 bA (gB [(r_,true)]=true→(0:Int)≤x.index∧x.index<(p.links.length:Int)) (
 some (bif (bif r_ then(decide (((at' p.links x.index.toNat).kind)=2))else false)then r_1 else false))
def Hw (p:au) (s_:State) (x:aJ):Option (State × Int):=
 (tK).bind fun r_=>
 (vW p s_ x).bind fun r_1=>
 bif r_1 then
 some ((⟨([]:List Bool),([]:List Bool),([]:List Bool),([]:List Bool),([]:List Bool),([]:List Bool),([]:List Bool)⟩:State),1)
 else
 (vR p s_ x).bind fun r_2=>
 bif r_2 then
 some ((⟨([]:List Bool),([]:List Bool),([]:List Bool),([]:List Bool),([]:List Bool),([]:List Bool),([]:List Bool)⟩:State),46)
 else
 (wo p s_ x).bind fun r_3=>
 bif r_3 then
 some ((⟨([]:List Bool),([]:List Bool),([]:List Bool),([]:List Bool),([]:List Bool),([]:List Bool),([]:List Bool)⟩:State),47)
 else
 (vZ p s_ x).bind fun r_4=>
 bif r_4 then
 some ((⟨([]:List Bool),([]:List Bool),([]:List Bool),([]:List Bool),([]:List Bool),([]:List Bool),([]:List Bool)⟩:State),43)
 else
 (vV p s_ x).bind fun r_5=>
 bif r_5 then
 some ((⟨([]:List Bool),([]:List Bool),([]:List Bool),([]:List Bool),([]:List Bool),([]:List Bool),([]:List Bool)⟩:State),44)
 else
 (yM s_ x).bind fun r_6=>
 some (r_6,0)
def ES (p:au) (s_:State) (t:Task) (x:aJ):Option (State × Int):=
 (Hw p s_ x).bind fun r_=>
 bif (decide (r_.2=0))then
 (wO p r_.1 t).bind fun r_1=>
 some (r_.1,r_1)
 else
 some (r_.1,r_.2)
def D6 (p:au) (t:Task) (l:(List aJ)):((List Bool) × (List Bool) × (List Bool) × (List Bool) × (List Bool) × (List Bool) × (List Bool) × Int)→Option (bL ((List Bool) × (List Bool) × (List Bool) × (List Bool) × (List Bool) × (List Bool) × (List Bool) × Int) (Ex ((List Bool) × (List Bool) × (List Bool) × (List Bool) × (List Bool) × (List Bool) × (List Bool)) (Int × State × Int))):=
 fun zz=>match zz with
 |(s0,s1,s2,s3,s4,s5,s6,t31)=>
 bif (decide (t31<(l.length:Int)))then
 bA ((0:Int)≤t31∧t31<(l.length:Int)) (
 (ES p (⟨s0,s1,s2,s3,s4,s5,s6⟩:State) t (at' l t31.toNat)).bind fun r_2=>
 bif (!decide (r_2.2=0))then
 some (.done (.ret (t31,(⟨([]:List Bool),([]:List Bool),([]:List Bool),([]:List Bool),([]:List Bool),([]:List Bool),([]:List Bool)⟩:State),r_2.2)))
 else
 some (.next (r_2.1.closed,r_2.1.locked,r_2.1.badLink,r_2.1.on_,r_2.1.badSource,r_2.1.earthed,r_2.1.badBus,(IntKind.wrap .i64 (t31+1)))))
 else
 some (.done (.brk (s0,s1,s2,s3,s4,s5,s6)))
def Ap (p:au) (s_:State) (t:Task) (l:(List aJ)):Option (Int × State × Int):=
 (Ci p s_ t).bind fun r_=>
 bif (!decide (r_=0))then
 some (0,(⟨([]:List Bool),([]:List Bool),([]:List Bool),([]:List Bool),([]:List Bool),([]:List Bool),([]:List Bool)⟩:State),r_)
 else
 bif (decide (256<(l.length:Int)))then
 some (0,(⟨([]:List Bool),([]:List Bool),([]:List Bool),([]:List Bool),([]:List Bool),([]:List Bool),([]:List Bool)⟩:State),2)
 else
 (Ay s_).bind fun r_1=>
 Option.bind (aN (D6 p t l) FUEL (r_1.closed,r_1.locked,r_1.badLink,r_1.on_,r_1.badSource,r_1.earthed,r_1.badBus,0)) fun o=>match o with
 | .ret v=>some v
 | .brk (s01,s11,s21,s31,s41,s51,s61)=>
 some ((l.length:Int),(⟨s01,s11,s21,s31,s41,s51,s61⟩:State),0)
def qN:Option Bool:=
 (F4).bind fun r_=>
 (yu r_.1 r_.2).bind fun r_1=>
 (xQ r_.1 r_.2 0).bind fun r_2=>
 (Ap r_.1 r_.2 (⟨[0],([]:List Int),([]:List aJ),([]:List aJ)⟩:Task) [(⟨1,0⟩:aJ)]).bind fun r_3=>
 (bif gB [((bif (bif (decide (r_1.2.2=0))then(decide (r_2.2=0))else false)then(decide (r_3.2.2=42))else false),true)]then BZ r_1.1 else some default).bind fun r_4=>
 some (bif (bif (bif (bif (decide (r_1.2.2=0))then(decide (r_2.2=0))else false)then(decide (r_3.2.2=42))else false)then(decide (r_4=5))else false)then(decide (r_2.1=1))else false)
def yI (x:Int) (n:Int):Option Int:=
 bif (decide (n<1))then
 some 0
 else
 bA (n≠(0:Int)) (
 bif (decide ((Int.tmod x n)<0))then
 some (IntKind.wrap .i64 ((Int.tmod x n)+n))
 else
 some (Int.tmod x n))
def oV (s_:State):Option State:=
 (aj s_.closed).bind fun r_=>
 (aj s_.locked).bind fun r_1=>
 (aj s_.badLink).bind fun r_2=>
 (aj s_.on_).bind fun r_3=>
 (aj s_.badSource).bind fun r_4=>
 (aj s_.earthed).bind fun r_5=>
 (aj s_.badBus).bind fun r_6=>
 some (⟨r_,r_1,r_2,r_3,r_4,r_5,r_6⟩:State)
def wD (x:Int):Option Bool:=
 some (!decide (x=x))
def qy (x:Int) (y:Int):Option Int:=
 (wD x).bind fun r_=>
 (wD y).bind fun r_1=>
 bif r_ then
 bif r_1 then
 some 0
 else
 some (-1)
 else
 bif r_1 then
 some 1
 else
 bif (decide (x<y))then
 some (-1)
 else
 bif (decide (y<x))then
 some 1
 else
 some 0
def bX (s1:(List Int)) (s2:(List Int)):Int→Option (bL Int (Ex Unit Int)):=
 fun t11=>
 bif (decide (t11<(s1.length:Int)))then
 bA ((0:Int)≤t11∧t11<(s1.length:Int)) (
 bif (decide ((s2.length:Int)≤t11))then
 some (.done (.ret 1))
 else
 bA ((0:Int)≤t11∧t11<(s2.length:Int)) (
 (qy (at' s1 t11.toNat) (at' s2 t11.toNat)).bind fun r_=>
 bif (!decide (r_=0))then
 some (.done (.ret r_))
 else
 some (.next (IntKind.wrap .i64 (t11+1)))))
 else
 some (.done (.brk ()))
def qd (s1:(List Int)) (s2:(List Int)):Option Int:=
 Option.bind (aN (bX s1 s2) FUEL (0)) fun o=>match o with
 | .ret v=>some v
 | .brk _=>
 bif (decide ((s1.length:Int)<(s2.length:Int)))then
 some (-1)
 else
 some 0
def AR (vals:(List Int)):Int→Option (bL Int (Ex Unit Int)):=
 fun t8=>
 bif (decide (t8<(vals.length:Int)))then
 bA ((0:Int)≤t8∧t8<(vals.length:Int)) (
 bif (!decide ((at' vals t8.toNat)=0))then
 some (.done (.ret (at' vals t8.toNat)))
 else
 some (.next (IntKind.wrap .i64 (t8+1))))
 else
 some (.done (.brk ()))
def Ej (vals:(List Int)):Option Int:=
 Option.bind (aN (AR vals) FUEL (0)) fun o=>match o with
 | .ret v=>some v
 | .brk _=>
 some 0
def jE (a:Way) (b:Way):Option Bool:=
 bif (!b.there)then
 some true
 else
 (qd a.links b.links).bind fun r_=>
 (Ej [(IntKind.wrap .i64 (a.fq - b.fq)),(IntKind.wrap .i64 ((a.links.length:Int) - (b.links.length:Int))),r_]).bind fun r_1=>
 some (decide (r_1<0))
def jZ (p:au) (t28:Int):((List Way) × Bool × Int)→Option (bL ((List Way) × Bool × Int) (Ex ((List Way) × Bool) (bL ((List Way) × Bool × Int) (Ex ((List Way) × Bool) (bL ((List Way) × Bool) (Ex (List Way) (List Way))))))):=
 fun zz=>match zz with
 |(out4,changed3,t49)=>
 bif (decide (t49<2))then
 bA ((0:Int)≤t49∧t49<((2:Nat):Int)) (
 bA ((0:Int)≤(at' [(⟨(at' p.links t28.toNat).a,(at' p.links t28.toNat).b⟩:ai),(⟨(at' p.links t28.toNat).b,(at' p.links t28.toNat).a⟩:ai)] t49.toNat).e0∧(at' [(⟨(at' p.links t28.toNat).a,(at' p.links t28.toNat).b⟩:ai),(⟨(at' p.links t28.toNat).b,(at' p.links t28.toNat).a⟩:ai)] t49.toNat).e0<(out4.length:Int)) (
 bif (!((at' out4 (((at' [(⟨(at' p.links t28.toNat).a,(at' p.links t28.toNat).b⟩:ai),(⟨(at' p.links t28.toNat).b,(at' p.links t28.toNat).a⟩:ai)] t49.toNat).e0).toNat)).there))then
 some (.next (out4,changed3,(IntKind.wrap .i64 (t49+1))))
 else
 (fT ((at' out4 (((at' [(⟨(at' p.links t28.toNat).a,(at' p.links t28.toNat).b⟩:ai),(⟨(at' p.links t28.toNat).b,(at' p.links t28.toNat).a⟩:ai)] t49.toNat).e0).toNat)).links)).bind fun r_1=>
 bA (((r_1.length+[t28].length)*8≤140737488355328)∧(r_1.length+[t28].length≤4611686018427387904)) (
 (jE (⟨true,(IntKind.wrap .i64 (((at' out4 (((at' [(⟨(at' p.links t28.toNat).a,(at' p.links t28.toNat).b⟩:ai),(⟨(at' p.links t28.toNat).b,(at' p.links t28.toNat).a⟩:ai)] t49.toNat).e0).toNat)).fq)+((at' p.links t28.toNat).fq))),(r_1++[t28])⟩:Way) (at' out4 (((at' [(⟨(at' p.links t28.toNat).a,(at' p.links t28.toNat).b⟩:ai),(⟨(at' p.links t28.toNat).b,(at' p.links t28.toNat).a⟩:ai)] t49.toNat).e1).toNat))).bind fun r_2=>
 bA ((0:Int)≤(at' [(⟨(at' p.links t28.toNat).a,(at' p.links t28.toNat).b⟩:ai),(⟨(at' p.links t28.toNat).b,(at' p.links t28.toNat).a⟩:ai)] t49.toNat).e1∧(at' [(⟨(at' p.links t28.toNat).a,(at' p.links t28.toNat).b⟩:ai),(⟨(at' p.links t28.toNat).b,(at' p.links t28.toNat).a⟩:ai)] t49.toNat).e1<(out4.length:Int)) (
 bif r_2 then
 bA ((0:Int)≤(at' [(⟨(at' p.links t28.toNat).a,(at' p.links t28.toNat).b⟩:ai),(⟨(at' p.links t28.toNat).b,(at' p.links t28.toNat).a⟩:ai)] t49.toNat).e1∧(at' [(⟨(at' p.links t28.toNat).a,(at' p.links t28.toNat).b⟩:ai),(⟨(at' p.links t28.toNat).b,(at' p.links t28.toNat).a⟩:ai)] t49.toNat).e1<(out4.length:Int)) (
 some (.next ((out4.set (((at' [(⟨(at' p.links t28.toNat).a,(at' p.links t28.toNat).b⟩:ai),(⟨(at' p.links t28.toNat).b,(at' p.links t28.toNat).a⟩:ai)] t49.toNat).e1).toNat) (⟨true,(IntKind.wrap .i64 (((at' out4 (((at' [(⟨(at' p.links t28.toNat).a,(at' p.links t28.toNat).b⟩:ai),(⟨(at' p.links t28.toNat).b,(at' p.links t28.toNat).a⟩:ai)] t49.toNat).e0).toNat)).fq)+((at' p.links t28.toNat).fq))),(r_1++[t28])⟩:Way)),true,(IntKind.wrap .i64 (t49+1)))))
 else
 some (.next (out4,changed3,(IntKind.wrap .i64 (t49+1))))))))
 else
 some (.done (.brk (out4,changed3)))
def oW (p:au) (s_:State):((List Way) × Bool × Int)→Option (bL ((List Way) × Bool × Int) (Ex ((List Way) × Bool) (bL ((List Way) × Bool) (Ex (List Way) (List Way))))):=
 fun zz=>match zz with
 |(out2,changed1,t28)=>
 bif (decide (t28<(p.links.length:Int)))then
 bA ((0:Int)≤t28∧t28<(p.links.length:Int)) (
 (kI p s_ t28).bind fun r_=>
 bif (!r_)then
 some (.next (out2,changed1,(IntKind.wrap .i64 (t28+1))))
 else
 Option.bind (aN (jZ p t28) FUEL (out2,changed1,0)) fun o=>match o with
 | .ret v=>some v
 | .brk (out5,changed4)=>
 some (.next (out5,changed4,(IntKind.wrap .i64 (t28+1)))))
 else
 some (.done (.brk (out2,changed1)))
def lJ (p:au) (s_:State):((List Way) × Bool)→Option (bL ((List Way) × Bool) (Ex (List Way) (List Way))):=
 fun zz=>match zz with
 |(out,changed)=>
 bif changed then
 Option.bind (aN (oW p s_) FUEL (out,false,0)) fun o=>match o with
 | .ret v=>some v
 | .brk (out3,changed2)=>
 some (.next (out3,changed2))
 else
 some (.done (.brk out))
def nY (p:au) (s_:State) (bus:Int):Option (List Way):=
 bA (((0:Int)≤p.buses)∧((40:Int)*p.buses≤281474976710656)∧((p.buses:Int)≤9223372036854775807)) (
 bA ((0:Int)≤bus∧bus<((List.replicate p.buses.toNat ((⟨false,0,([]:List Int)⟩:Way):Way)).length:Int)) (
 Option.bind (aN (lJ p s_) FUEL (((List.replicate p.buses.toNat ((⟨false,0,([]:List Int)⟩:Way):Way)).set bus.toNat (⟨true,(at' (List.replicate p.buses.toNat ((⟨false,0,([]:List Int)⟩:Way):Way)) bus.toNat).fq,(at' (List.replicate p.buses.toNat ((⟨false,0,([]:List Int)⟩:Way):Way)) bus.toNat).links⟩:Way)),true)) fun o=>match o with
 | .ret v=>some v
 | .brk out1=>
 some out1))
def mh (p:au) (s_:State) (bus:Int):((List Short) × Int)→Option (bL ((List Short) × Int) (Ex (List Short) ((List Short) × Int))):=
 fun zz=>match zz with
 |(out,t31)=>
 bif (decide (t31<(p.sources.length:Int)))then
 bA ((0:Int)≤t31∧t31<(p.sources.length:Int)) (
 (bif gB [((at' s_.badBus bus.toNat),false)]then oz p s_ t31 else some default).bind fun r_1=>
 bA ((0:Int)≤bus∧bus<(s_.badBus.length:Int)) (
 bif (bif (at' s_.badBus bus.toNat)then true else(!r_1))then
 some (.next (out,(IntKind.wrap .i64 (t31+1))))
 else
 (nY p s_ ((at' p.sources t31.toNat).bus)).bind fun r_2=>
 bA ((0:Int)≤bus∧bus<(r_2.length:Int)) (
 bif ((at' r_2 bus.toNat).there)then
 bA (((IntKind.wrap .i64 (((at' p.sources t31.toNat).fq)+((at' r_2 bus.toNat).fq)))≠(0:Int))∧((out.length+[(⟨t31,(IntKind.wrap .i64 (((at' p.sources t31.toNat).fq)+((at' r_2 bus.toNat).fq))),(IntKind.wrap .i64 (Int.tdiv (IntKind.wrap .i64 ((IntKind.wrap .i64 ((400000:Int)+(IntKind.wrap .i64 (((at' p.sources t31.toNat).fq)+((at' r_2 bus.toNat).fq))))) - 1)) (IntKind.wrap .i64 (((at' p.sources t31.toNat).fq)+((at' r_2 bus.toNat).fq))))),(at' r_2 bus.toNat).links⟩:Short)].length)*48≤140737488355328)∧(out.length+[(⟨t31,(IntKind.wrap .i64 (((at' p.sources t31.toNat).fq)+((at' r_2 bus.toNat).fq))),(IntKind.wrap .i64 (Int.tdiv (IntKind.wrap .i64 ((IntKind.wrap .i64 ((400000:Int)+(IntKind.wrap .i64 (((at' p.sources t31.toNat).fq)+((at' r_2 bus.toNat).fq))))) - 1)) (IntKind.wrap .i64 (((at' p.sources t31.toNat).fq)+((at' r_2 bus.toNat).fq))))),(at' r_2 bus.toNat).links⟩:Short)].length≤4611686018427387904)) (
 some (.next ((out++[(⟨t31,(IntKind.wrap .i64 (((at' p.sources t31.toNat).fq)+((at' r_2 bus.toNat).fq))),(IntKind.wrap .i64 (Int.tdiv (IntKind.wrap .i64 ((IntKind.wrap .i64 ((400000:Int)+(IntKind.wrap .i64 (((at' p.sources t31.toNat).fq)+((at' r_2 bus.toNat).fq))))) - 1)) (IntKind.wrap .i64 (((at' p.sources t31.toNat).fq)+((at' r_2 bus.toNat).fq))))),(at' r_2 bus.toNat).links⟩:Short)]),(IntKind.wrap .i64 (t31+1)))))
 else
 some (.next (out,(IntKind.wrap .i64 (t31+1)))))))
 else
 some (.done (.brk out))
def qw (p:au) (s_:State) (bus:Int):Option ((List Short) × Int):=
 (bV p s_).bind fun r_=>
 bif (!decide (r_=0))then
 some (([]:List Short),r_)
 else
 bif (bif (decide (bus<0))then true else(decide (p.buses≤bus)))then
 some (([]:List Short),1)
 else
 Option.bind (aN (mh p s_ bus) FUEL (([]:List Short),0)) fun o=>match o with
 | .ret v=>some v
 | .brk out1=>
 some (out1,0)
def qo (i:Int) (o_:(List Int)):Option Bool:=
 some (bif (decide (i<0))then true else(decide ((o_.length:Int)≤i)))
def iI (s_:(List Int)) (o_:(List Int)):Int→Option (bL Int (Ex Unit Int)):=
 fun t8=>
 bif (decide (t8<(s_.length:Int)))then
 (qo (at' s_ t8.toNat) o_).bind fun r_=>
 bA ((0:Int)≤t8∧t8<(s_.length:Int)) (
 bif r_ then
 some (.done (.ret t8))
 else
 some (.next (IntKind.wrap .i64 (t8+1))))
 else
 some (.done (.brk ()))
def jI (s_:(List Int)) (o_:(List Int)):Option Int:=
 Option.bind (aN (iI s_ o_) FUEL (0)) fun o=>match o with
 | .ret v=>some v
 | .brk _=>
 some (-1)
def fG (s_:(List Int)) (o_:(List Int)):Option Bool:=
 (jI s_ o_).bind fun r_=>
 some (decide (0≤r_))
def jl (l:(List Short)) (out0:(List Int)) (t25:Int):((List Int) × Int)→Option (bL ((List Int) × Int) (Ex (List Int) (bL ((List Int) × Int) (Ex (List Int) ((List Int) × Bool × Int))))):=
 fun zz=>match zz with
 |(out02,t45)=>
 bif (decide (t45<(out0.length:Int)))then
 (dL ((at' l t25.toNat).links) t45).bind fun r_2=>
 bif r_2 then
 bA ((0:Int)≤t45∧t45<(out02.length:Int)) (
 some (.next ((out02.set t45.toNat (IntKind.wrap .i64 ((at' out02 t45.toNat)+((at' l t25.toNat).amps)))),(IntKind.wrap .i64 (t45+1)))))
 else
 some (.next (out02,(IntKind.wrap .i64 (t45+1))))
 else
 some (.done (.brk out02))
def fH (l:(List Short)):((List Int) × Int)→Option (bL ((List Int) × Int) (Ex (List Int) ((List Int) × Bool × Int))):=
 fun zz=>match zz with
 |(out0,t25)=>
 bif (decide (t25<(l.length:Int)))then
 bA ((0:Int)≤t25∧t25<(l.length:Int)) (
 (bif gB [((bif (decide (((at' l t25.toNat).amps)<0))then true else(decide (1000000<((at' l t25.toNat).amps)))),false)]then fG ((at' l t25.toNat).links) out0 else some default).bind fun r_1=>
 bif (bif (bif (decide (((at' l t25.toNat).amps)<0))then true else(decide (1000000<((at' l t25.toNat).amps))))then true else r_1)then
 some (.done (.ret (([]:List Int),false,1)))
 else
 Option.bind (aN (jl l out0 t25) FUEL (out0,0)) fun o=>match o with
 | .ret v=>some v
 | .brk out03=>
 some (.next (out03,(IntKind.wrap .i64 (t25+1)))))
 else
 some (.done (.brk out0))
def lX (p:au) (l:(List Short)):Option ((List Int) × Bool × Int):=
 (kR p).bind fun r_=>
 bif (!decide (r_=0))then
 some (([]:List Int),false,r_)
 else
 bif (decide (8<(l.length:Int)))then
 some (([]:List Int),false,1)
 else
 bA (((0:Int)≤(p.links.length:Int))∧((8:Int)*(p.links.length:Int)≤281474976710656)∧(((p.links.length:Int):Int)≤9223372036854775807)) (
 Option.bind (aN (fH l) FUEL ((List.replicate ((p.links.length:Int).toNat) (0:Int)),0)) fun o=>match o with
 | .ret v=>some v
 | .brk out01=>
 some (out01,true,0))
def gU (r_:((List Short) × Int)):(Int × Int)→Option (bL (Int × Int) (Ex Int (Machine × Bool))):=
 fun zz=>match zz with
 |(o17,t41)=>
 bif (decide (t41<(r_.1.length:Int)))then
 bA ((0:Int)≤t41∧t41<(r_.1.length:Int)) (
 some (.next ((IntKind.wrap .i64 (o17+((at' r_.1 t41.toNat).amps))),(IntKind.wrap .i64 (t41+1)))))
 else
 some (.done (.brk o17))
def fw (machine:Machine) (machine_nn:Bool) (r_1:((List Int) × Bool × Int)):((List (Int × Int)) × Int)→Option (bL ((List (Int × Int)) × Int) (Ex (List (Int × Int)) (Machine × Bool))):=
 fun zz=>match zz with
 |(o18,t57)=>
 bif (decide (t57<(r_1.1.length:Int)))then
 bA ((0:Int)≤t57∧t57<(r_1.1.length:Int)) (
 bA (gB [((!machine_nn),false)]=true→(0:Int)≤t57∧t57<(machine.amps.length:Int)) (
 bif (bif (!machine_nn)then true else(!decide ((at' machine.amps t57.toNat)=(at' r_1.1 t57.toNat))))then
 some (.next ((dG bn t57 machine.now o18),(IntKind.wrap .i64 (t57+1))))
 else
 some (.next (o18,(IntKind.wrap .i64 (t57+1))))))
 else
 some (.done (.brk o18))
def d9 (machine:Machine) (machine_nn:Bool):Option (Machine × Bool):=
 (qw machine.p machine.clearing.state machine.bus).bind fun r_=>
 (lX machine.p r_.1).bind fun r_1=>
 Option.bind (aN (gU r_) FUEL (0,0)) fun o=>match o with
 | .ret v=>some v
 | .brk o171=>
 Option.bind (aN (fw machine machine_nn r_1) FUEL (machine.since,0)) fun o=>match o with
 | .ret v=>some v
 | .brk o181=>
 some ((⟨machine.clearing,machine.p,machine.bus,r_1.1,o171,o181,machine.now⟩:Machine),r_1.2.1)
def jd (machine:Machine) (machine_nn:Bool):Option Unit:=
 some ()
def eD (x:Link) (amps:Int):Int→Option (bL Int (Ex Unit (Int × Bool))):=
 fun i=>
 bif (decide (0≤i))then
 bA ((0:Int)≤i∧i<(x.trip.length:Int)) (
 bif (decide (((at' x.trip i.toNat).amps)≤amps))then
 bA ((0:Int)≤i∧i<(x.trip.length:Int)) (
 some (.done (.ret ((at' x.trip i.toNat).millis,true))))
 else
 some (.next (IntKind.wrap .i64 (i - 1))))
 else
 some (.done (.brk ()))
def kQ (x:Link) (amps:Int):Option (Int × Bool):=
 Option.bind (aN (eD x amps) FUEL (IntKind.wrap .i64 ((x.trip.length:Int) - 1))) fun o=>match o with
 | .ret v=>some v
 | .brk _=>
 some (0,false)
def fQ (x13:Int) (x14:Int) (int:Int):Option Int:=
 bif (bif (decide (int<0))then true else(decide (x14<int)))then
 some x14
 else
 some int
def fK (machine:Machine):(Int × Int)→Option (bL (Int × Int) (Ex Int Int)):=
 fun zz=>match zz with
 |(o30,t13)=>
 bif (decide (t13<(machine.p.links.length:Int)))then
 bA ((0:Int)≤t13∧t13<(machine.p.links.length:Int)) (
 bA ((gB [((!decide (((at' machine.p.links t13.toNat).kind)=3)),false)]=true→(0:Int)≤t13∧t13<(machine.clearing.state.closed.length:Int))∧(gB [((bif (!decide (((at' machine.p.links t13.toNat).kind)=3))then true else(!(at' machine.clearing.state.closed t13.toNat))),false)]=true→(0:Int)≤t13∧t13<(machine.clearing.state.badLink.length:Int))) (
 bif (bif (bif (!decide (((at' machine.p.links t13.toNat).kind)=3))then true else(!(at' machine.clearing.state.closed t13.toNat)))then true else(at' machine.clearing.state.badLink t13.toNat))then
 some (.next (o30,(IntKind.wrap .i64 (t13+1))))
 else
 (kQ (at' machine.p.links t13.toNat) (at' machine.amps t13.toNat)).bind fun r_=>
 bA ((0:Int)≤t13∧t13<(machine.amps.length:Int)) (
 bif r_.2 then
 (fQ t13 (IntKind.wrap .i64 (((bN bn t13 machine.since).getD 0)+r_.1)) o30).bind fun r_1=>
 some (.next (r_1,(IntKind.wrap .i64 (t13+1))))
 else
 some (.next (o30,(IntKind.wrap .i64 (t13+1)))))))
 else
 some (.done (.brk o30))
def ic (int:Int) (machine:Machine) (machine_nn:Bool):Option Int:=
 Option.bind (aN (fK machine) FUEL (int,0)) fun o=>match o with
 | .ret v=>some v
 | .brk o301=>
 some o301
def fP (x33:Int) (x34:Int) (int:Int) (o_:(List Int)):Option (List Int):=
 bif (decide (x34≤int))then
 bA (((o_.length+[x33].length)*8≤140737488355328)∧(o_.length+[x33].length≤4611686018427387904)) (
 some (o_++[x33]))
 else
 some o_
def eT (int:Int) (machine:Machine):((List Int) × Int)→Option (bL ((List Int) × Int) (Ex (List Int) (List Int))):=
 fun zz=>match zz with
 |(o60,t13)=>
 bif (decide (t13<(machine.p.links.length:Int)))then
 bA ((0:Int)≤t13∧t13<(machine.p.links.length:Int)) (
 bA ((gB [((!decide (((at' machine.p.links t13.toNat).kind)=3)),false)]=true→(0:Int)≤t13∧t13<(machine.clearing.state.closed.length:Int))∧(gB [((bif (!decide (((at' machine.p.links t13.toNat).kind)=3))then true else(!(at' machine.clearing.state.closed t13.toNat))),false)]=true→(0:Int)≤t13∧t13<(machine.clearing.state.badLink.length:Int))) (
 bif (bif (bif (!decide (((at' machine.p.links t13.toNat).kind)=3))then true else(!(at' machine.clearing.state.closed t13.toNat)))then true else(at' machine.clearing.state.badLink t13.toNat))then
 some (.next (o60,(IntKind.wrap .i64 (t13+1))))
 else
 (kQ (at' machine.p.links t13.toNat) (at' machine.amps t13.toNat)).bind fun r_=>
 bA ((0:Int)≤t13∧t13<(machine.amps.length:Int)) (
 bif r_.2 then
 (fP t13 (IntKind.wrap .i64 (((bN bn t13 machine.since).getD 0)+r_.1)) int o60).bind fun r_1=>
 some (.next (r_1,(IntKind.wrap .i64 (t13+1))))
 else
 some (.next (o60,(IntKind.wrap .i64 (t13+1)))))))
 else
 some (.done (.brk o60))
def fI (int:Int) (o_:(List Int)) (machine:Machine) (machine_nn:Bool):Option (List Int):=
 Option.bind (aN (eT int machine) FUEL (o_,0)) fun o=>match o with
 | .ret v=>some v
 | .brk o601=>
 some o601
def eY (machine:Machine) (r_1:Int) (r_3:(List Int)):((List Event) × (List Bool) × Int)→Option (bL ((List Event) × (List Bool) × Int) (Ex ((List Event) × (List Bool)) (Bool × Machine × Bool))):=
 fun zz=>match zz with
 |(o0,o4,t92)=>
 bif (decide (t92<(r_3.length:Int)))then
 bA ((0:Int)≤t92∧t92<(r_3.length:Int)) (
 bA ((0:Int)≤(at' r_3 t92.toNat)∧(at' r_3 t92.toNat)<(o4.length:Int)) (
 bA (((o0.length+[(⟨(if r_1<machine.now then machine.now else r_1),(at' r_3 t92.toNat)⟩:Event)].length)*16≤140737488355328)∧(o0.length+[(⟨(if r_1<machine.now then machine.now else r_1),(at' r_3 t92.toNat)⟩:Event)].length≤4611686018427387904)) (
 some (.next ((o0++[(⟨(if r_1<machine.now then machine.now else r_1),(at' r_3 t92.toNat)⟩:Event)]),(o4.set ((at' r_3 t92.toNat).toNat) false),(IntKind.wrap .i64 (t92+1)))))))
 else
 some (.done (.brk (o0,o4)))
def eU (machine:Machine) (machine_nn:Bool):Option (Bool × Machine × Bool):=
 (jd machine machine_nn).bind fun r_=>
 (ic (-1) machine machine_nn).bind fun r_1=>
 bif (decide (r_1<0))then
 some (false,machine,machine_nn)
 else
 (jd machine machine_nn).bind fun r_2=>
 (fI (if r_1<machine.now then machine.now else r_1) ([]:List Int) machine machine_nn).bind fun r_3=>
 bA (1000≠(0:Int)) (
 (aj machine.clearing.state.closed).bind fun r_4=>
 Option.bind (aN (eY machine r_1 r_3) FUEL (machine.clearing.events,r_4,0)) fun o=>match o with
 | .ret v=>some v
 | .brk (o01,o41)=>
 some (true,(⟨(⟨o01,machine.clearing.cleared,(if r_1<machine.now then machine.now else r_1),(IntKind.wrap .i64 (machine.clearing.energy+(IntKind.wrap .i64 ((IntKind.wrap .i64 (Int.tdiv (IntKind.wrap .i64 ((IntKind.wrap .i64 (machine.total*machine.total))+999)) 1000))*(IntKind.wrap .i64 ((if r_1<machine.now then machine.now else r_1) - machine.now)))))),(⟨o41,machine.clearing.state.locked,machine.clearing.state.badLink,machine.clearing.state.on_,machine.clearing.state.badSource,machine.clearing.state.earthed,machine.clearing.state.badBus⟩:State)⟩:cK),machine.p,machine.bus,machine.amps,machine.total,machine.since,(if r_1<machine.now then machine.now else r_1)⟩:Machine),machine_nn))
def eB (machine:Machine):((List Event) × Bool × Int × Int × (List Bool) × Int × (List Source) × (List Link) × (List aU) × Int × Bool × (List Int) × Int × (List (Int × Int)) × Int)→Option (bL ((List Event) × Bool × Int × Int × (List Bool) × Int × (List Source) × (List Link) × (List aU) × Int × Bool × (List Int) × Int × (List (Int × Int)) × Int) (Ex Unit (cK × (List (Int × Int))))):=
 fun zz=>match zz with
 |(o0,o1,o2,o3,o4,o11,o12,o13,o14,o15,o16_nn,o16,o17,o18,o19)=>
 (d9 (⟨(⟨o0,o1,o2,o3,(⟨o4,machine.clearing.state.locked,machine.clearing.state.badLink,machine.clearing.state.on_,machine.clearing.state.badSource,machine.clearing.state.earthed,machine.clearing.state.badBus⟩:State)⟩:cK),(⟨o11,o12,o13,o14⟩:au),o15,o16,o17,o18,o19⟩:Machine) o16_nn).bind fun r_=>
 bif (decide (r_.1.total=0))then
 some (.done (.ret ((⟨o0,true,r_.1.clearing.millis,r_.1.clearing.energy,(⟨o4,machine.clearing.state.locked,machine.clearing.state.badLink,machine.clearing.state.on_,machine.clearing.state.badSource,machine.clearing.state.earthed,machine.clearing.state.badBus⟩:State)⟩:cK),r_.1.since)))
 else
 (eU (⟨(⟨o0,r_.1.clearing.cleared,r_.1.clearing.millis,r_.1.clearing.energy,(⟨o4,machine.clearing.state.locked,machine.clearing.state.badLink,machine.clearing.state.on_,machine.clearing.state.badSource,machine.clearing.state.earthed,machine.clearing.state.badBus⟩:State)⟩:cK),r_.1.p,r_.1.bus,r_.1.amps,r_.1.total,r_.1.since,r_.1.now⟩:Machine) r_.2).bind fun r_1=>
 bif r_1.1 then
 some (.next (r_1.2.1.clearing.events,r_1.2.1.clearing.cleared,r_1.2.1.clearing.millis,r_1.2.1.clearing.energy,r_1.2.1.clearing.state.closed,r_1.2.1.p.buses,r_1.2.1.p.sources,r_1.2.1.p.links,r_1.2.1.p.racks,r_1.2.1.bus,r_1.2.2,r_1.2.1.amps,r_1.2.1.total,r_.1.since,r_1.2.1.now))
 else
 some (.done (.ret ((⟨r_1.2.1.clearing.events,r_1.2.1.clearing.cleared,r_1.2.1.clearing.millis,r_1.2.1.clearing.energy,(⟨r_1.2.1.clearing.state.closed,machine.clearing.state.locked,machine.clearing.state.badLink,machine.clearing.state.on_,machine.clearing.state.badSource,machine.clearing.state.earthed,machine.clearing.state.badBus⟩:State)⟩:cK),r_.1.since)))
def jP (machine:Machine) (machine_nn:Bool):Option (cK × (List (Int × Int))):=
 Option.bind (aN (eB machine) FUEL (machine.clearing.events,machine.clearing.cleared,machine.clearing.millis,machine.clearing.energy,machine.clearing.state.closed,machine.p.buses,machine.p.sources,machine.p.links,machine.p.racks,machine.bus,machine_nn,machine.amps,machine.total,machine.since,machine.now)) fun o=>match o with
 | .ret v=>some v
 | .brk _=>none
def nk (p:au) (s_:State) (bus:Int):Option (cK × Int):=
 (bV p s_).bind fun r_=>
 bif (!decide (r_=0))then
 some ((⟨([]:List Event),false,0,0,(⟨([]:List Bool),([]:List Bool),([]:List Bool),([]:List Bool),([]:List Bool),([]:List Bool),([]:List Bool)⟩:State)⟩:cK),r_)
 else
 bif (bif (decide (bus<0))then true else(decide (p.buses≤bus)))then
 some ((⟨([]:List Event),false,0,0,(⟨([]:List Bool),([]:List Bool),([]:List Bool),([]:List Bool),([]:List Bool),([]:List Bool),([]:List Bool)⟩:State)⟩:cK),1)
 else
 (oV s_).bind fun r_1=>
 (jP (⟨(⟨([]:List Event),false,0,0,r_1⟩:cK),p,bus,([]:List Int),0,([]:(List (Int × Int))),0⟩:Machine) false).bind fun r_2=>
 some (r_2.1,0)
def oK (p:au) (i:Int) (bus:Int):Option Bool:=
 bA (((0:Int)≤i∧i<(p.links.length:Int))∧(gB [((decide (((at' p.links i.toNat).a)=bus)),false)]=true→(0:Int)≤i∧i<(p.links.length:Int))) (
 some (bif (decide (((at' p.links i.toNat).a)=bus))then true else(decide (((at' p.links i.toNat).b)=bus))))
def jT (x:Event) (x1:Int) (x11:(List Source)) (x12:(List Link)) (x13:(List aU)) (x2:Int):Option Bool:=
 (oK (⟨x1,x11,x12,x13⟩:au) x.link x2).bind fun r_=>
 some (!r_)
def jW (s_:(List Event)) (f_:Int) (f_1:(List Source)) (f_2:(List Link)) (f_3:(List aU)) (f_4:Int):Int→Option (bL Int (Ex Unit Int)):=
 fun t8=>
 bif (decide (t8<(s_.length:Int)))then
 (jT (at' s_ t8.toNat) f_ f_1 f_2 f_3 f_4).bind fun r_=>
 bA ((0:Int)≤t8∧t8<(s_.length:Int)) (
 bif r_ then
 some (.done (.ret t8))
 else
 some (.next (IntKind.wrap .i64 (t8+1))))
 else
 some (.done (.brk ()))
def lG (s_:(List Event)) (f_:Int) (f_1:(List Source)) (f_2:(List Link)) (f_3:(List aU)) (f_4:Int):Option Int:=
 Option.bind (aN (jW s_ f_ f_1 f_2 f_3 f_4) FUEL (0)) fun o=>match o with
 | .ret v=>some v
 | .brk _=>
 some (-1)
def gZ (s_:(List Event)) (f_:Int) (f_1:(List Source)) (f_2:(List Link)) (f_3:(List aU)) (f_4:Int):Option Bool:=
 (lG s_ f_ f_1 f_2 f_3 f_4).bind fun r_=>
 some (decide (0≤r_))
def kZ (p:au) (s_:State) (bus:Int):Option (Bool × Int):=
 (nk p s_ bus).bind fun r_=>
 bif (!decide (r_.2=0))then
 some (false,r_.2)
 else
 (bif gB [(r_.1.cleared,true)]then gZ r_.1.events p.buses p.sources p.links p.racks bus else some default).bind fun r_1=>
 some ((bif r_.1.cleared then(!r_1)else false),0)
def oJ (s_:State):Option State:=
 bA ((0:Int)≤0∧0<(7:Int)) (
 (aj s_.closed).bind fun r_=>
 bA ((0:Int)≤1∧1<(7:Int)) (
 (aj s_.locked).bind fun r_1=>
 bA ((0:Int)≤2∧2<(7:Int)) (
 (aj s_.badLink).bind fun r_2=>
 bA ((0:Int)≤3∧3<(7:Int)) (
 (aj s_.on_).bind fun r_3=>
 bA ((0:Int)≤4∧4<(7:Int)) (
 (aj s_.badSource).bind fun r_4=>
 bA ((0:Int)≤5∧5<(7:Int)) (
 (aj s_.earthed).bind fun r_5=>
 bA ((0:Int)≤6∧6<(7:Int)) (
 (aj s_.badBus).bind fun r_6=>
 some (⟨r_,r_1,r_2,r_3,r_4,r_5,r_6⟩:State))))))))
def j3 (p:au) (s_:State) (x:Part) (is:Bool):Option (State × Int):=
 (bV p s_).bind fun r_=>
 bif (!decide (r_=0))then
 some ((⟨([]:List Bool),([]:List Bool),([]:List Bool),([]:List Bool),([]:List Bool),([]:List Bool),([]:List Bool)⟩:State),r_)
 else
 (oJ s_).bind fun r_1=>
 bif (bn x.kind 1)then
 (bD x.index 0 (IntKind.wrap .i64 ((r_1.badBus.length:Int) - 1))).bind fun r_2=>
 bif (!r_2)then
 some ((⟨([]:List Bool),([]:List Bool),([]:List Bool),([]:List Bool),([]:List Bool),([]:List Bool),([]:List Bool)⟩:State),14)
 else
 bA ((0:Int)≤x.index∧x.index<(r_1.badBus.length:Int)) (
 some ((⟨r_1.closed,r_1.locked,r_1.badLink,r_1.on_,r_1.badSource,r_1.earthed,(r_1.badBus.set x.index.toNat is)⟩:State),0))
 else
 bif (bn x.kind 2)then
 (bD x.index 0 (IntKind.wrap .i64 ((r_1.badSource.length:Int) - 1))).bind fun r_3=>
 bif (!r_3)then
 some ((⟨([]:List Bool),([]:List Bool),([]:List Bool),([]:List Bool),([]:List Bool),([]:List Bool),([]:List Bool)⟩:State),14)
 else
 bA ((0:Int)≤x.index∧x.index<(r_1.badSource.length:Int)) (
 some ((⟨r_1.closed,r_1.locked,r_1.badLink,r_1.on_,(r_1.badSource.set x.index.toNat is),r_1.earthed,r_1.badBus⟩:State),0))
 else
 bif (bn x.kind 3)then
 (bD x.index 0 (IntKind.wrap .i64 ((r_1.badLink.length:Int) - 1))).bind fun r_4=>
 bif (!r_4)then
 some ((⟨([]:List Bool),([]:List Bool),([]:List Bool),([]:List Bool),([]:List Bool),([]:List Bool),([]:List Bool)⟩:State),14)
 else
 bA ((0:Int)≤x.index∧x.index<(r_1.badLink.length:Int)) (
 some ((⟨r_1.closed,r_1.locked,(r_1.badLink.set x.index.toNat is),r_1.on_,r_1.badSource,r_1.earthed,r_1.badBus⟩:State),0))
 else
 (bD x.index 0 (-1)).bind fun r_5=>
 bif (!r_5)then
 some ((⟨([]:List Bool),([]:List Bool),([]:List Bool),([]:List Bool),([]:List Bool),([]:List Bool),([]:List Bool)⟩:State),14)
 else
 none
def jH (p:au) (s_:State) (x:Part):Option (State × Int):=
 (j3 p s_ x true).bind fun r_=>
 some (r_.1,r_.2)
def ou (x:aZ):Option Bool:=
 some (bif x.e0 then true else x.e1)
def kJ (p:au) (r_2:((List aZ) × Int)) (r_3:((List aZ) × Int)):((List Int) × Int)→Option (bL ((List Int) × Int) (Ex (List Int) ((List Int) × Int))):=
 fun zz=>match zz with
 |(out,t58)=>
 bif (decide (t58<(p.racks.length:Int)))then
 (ou (at' r_2.1 t58.toNat)).bind fun r_4=>
 (bif gB [(r_4,true)]then ou (at' r_3.1 t58.toNat)else some default).bind fun r_5=>
 bA (((0:Int)≤t58∧t58<(r_2.1.length:Int))∧(gB [(r_4,true)]=true→(0:Int)≤t58∧t58<(r_3.1.length:Int))) (
 bif (bif r_4 then(!r_5)else false)then
 bA (((out.length+[t58].length)*8≤140737488355328)∧(out.length+[t58].length≤4611686018427387904)) (
 some (.next ((out++[t58]),(IntKind.wrap .i64 (t58+1)))))
 else
 some (.next (out,(IntKind.wrap .i64 (t58+1)))))
 else
 some (.done (.brk out))
def rW (p:au) (s_:State) (bus:Int):Option ((List Int) × Int):=
 (nk p s_ bus).bind fun r_=>
 bif (!decide (r_.2=0))then
 some (([]:List Int),r_.2)
 else
 bif (!r_.1.cleared)then
 some (([]:List Int),4)
 else
 (jH p r_.1.state (⟨1,bus⟩:Part)).bind fun r_1=>
 (j6 p s_).bind fun r_2=>
 (j6 p r_1.1).bind fun r_3=>
 Option.bind (aN (kJ p r_2 r_3) FUEL (([]:List Int),0)) fun o=>match o with
 | .ret v=>some v
 | .brk out1=>
 some (out1,0)
def nP (p:au) (s_:State) (rack:Int):Option Bool:=
 (j6 p s_).bind fun r_=>
 bA (((0:Int)≤rack∧rack<(r_.1.length:Int))∧(gB [((at' r_.1 rack.toNat).e0,false)]=true→(0:Int)≤rack∧rack<(r_.1.length:Int))) (
 some (bif (at' r_.1 rack.toNat).e0 then true else(at' r_.1 rack.toNat).e1))
def lS (s_:State) (x:Part):Option Bool:=
 bA (((0:Int)≤x.kind∧x.kind<([([]:List Bool),s_.badBus,s_.badSource,s_.badLink].length:Int))∧((0:Int)≤x.index∧x.index<((at' [([]:List Bool),s_.badBus,s_.badSource,s_.badLink] x.kind.toNat).length:Int))) (
 some (at' (at' [([]:List Bool),s_.badBus,s_.badSource,s_.badLink] x.kind.toNat) x.index.toNat))
def kL (x:Part) (x1:(List Bool)) (x11:(List Bool)) (x12:(List Bool)) (x13:(List Bool)) (x14:(List Bool)) (x15:(List Bool)) (x16:(List Bool)):Option Bool:=
 (lS (⟨x1,x11,x12,x13,x14,x15,x16⟩:State) x).bind fun r_=>
 some r_
def jD (s_:(List Part)) (f_:(List Bool)) (f_1:(List Bool)) (f_2:(List Bool)) (f_3:(List Bool)) (f_4:(List Bool)) (f_5:(List Bool)) (f_6:(List Bool)):Int→Option (bL Int (Ex Unit Int)):=
 fun t8=>
 bif (decide (t8<(s_.length:Int)))then
 (kL (at' s_ t8.toNat) f_ f_1 f_2 f_3 f_4 f_5 f_6).bind fun r_=>
 bA ((0:Int)≤t8∧t8<(s_.length:Int)) (
 bif r_ then
 some (.done (.ret t8))
 else
 some (.next (IntKind.wrap .i64 (t8+1))))
 else
 some (.done (.brk ()))
def jb (s_:(List Part)) (f_:(List Bool)) (f_1:(List Bool)) (f_2:(List Bool)) (f_3:(List Bool)) (f_4:(List Bool)) (f_5:(List Bool)) (f_6:(List Bool)):Option Int:=
 Option.bind (aN (jD s_ f_ f_1 f_2 f_3 f_4 f_5 f_6) FUEL (0)) fun o=>match o with
 | .ret v=>some v
 | .brk _=>
 some (-1)
def fZ (del:(List Bool)) (del1:(List Bool)) (del2:(List Bool)) (del3:(List Bool)) (del4:(List Bool)) (del5:(List Bool)) (del6:(List Bool)):((List Part) × Int × Int)→Option (bL ((List Part) × Int × Int) (Ex ((List Part) × Int) (List Part))):=
 fun zz=>match zz with
 |(o_,i,j)=>
 bif (decide (j<(o_.length:Int)))then
 bA ((0:Int)≤j∧j<(o_.length:Int)) (
 (kL (at' o_ j.toNat) del del1 del2 del3 del4 del5 del6).bind fun r_1=>
 bif (!r_1)then
 bA ((0:Int)≤i∧i<(o_.length:Int)) (
 some (.next ((o_.set i.toNat (at' o_ j.toNat)),(IntKind.wrap .i64 (i+1)),(IntKind.wrap .i64 (j+1)))))
 else
 some (.next (o_,i,(IntKind.wrap .i64 (j+1)))))
 else
 some (.done (.brk (o_,i)))
def iE (s_:(List Part)) (del:(List Bool)) (del1:(List Bool)) (del2:(List Bool)) (del3:(List Bool)) (del4:(List Bool)) (del5:(List Bool)) (del6:(List Bool)):Option (List Part):=
 (jb s_ del del1 del2 del3 del4 del5 del6).bind fun r_=>
 bif (decide (r_=(-1)))then
 some s_
 else
 Option.bind (aN (fZ del del1 del2 del3 del4 del5 del6) FUEL (s_,r_,(IntKind.wrap .i64 (r_+1)))) fun o=>match o with
 | .ret v=>some v
 | .brk (o_1,i1)=>
 bA ((0:Int)≤i1∧i1≤(o_1.length:Int)) (
 bA ((0:Int)≤i1∧i1≤((BJ o_1 i1.toNat (⟨0,0⟩:Part)).length:Int)) (
 some ((BJ o_1 i1.toNat (⟨0,0⟩:Part)).take i1.toNat)))
def mg (p:au) (s_:State):Option (List Part):=
 (mZ p).bind fun r_=>
 (iE r_.1 s_.closed s_.locked s_.badLink s_.on_ s_.badSource s_.earthed s_.badBus).bind fun r_1=>
 some r_1
def iU (x:Part) (x1:Int) (x11:(List Source)) (x12:(List Link)) (x13:(List aU)) (x2:(List Bool)) (x21:(List Bool)) (x22:(List Bool)) (x23:(List Bool)) (x24:(List Bool)) (x25:(List Bool)) (x26:(List Bool)) (x3:Int):Option Bool:=
 (jH (⟨x1,x11,x12,x13⟩:au) (⟨x2,x21,x22,x23,x24,x25,x26⟩:State) x).bind fun r_=>
 (nP (⟨x1,x11,x12,x13⟩:au) r_.1 x3).bind fun r_1=>
 some r_1
def iJ (s_:(List Part)) (f_:Int) (f_1:(List Source)) (f_2:(List Link)) (f_3:(List aU)) (f_4:(List Bool)) (f_5:(List Bool)) (f_6:(List Bool)) (f_7:(List Bool)) (f_8:(List Bool)) (f_9:(List Bool)) (f_10:(List Bool)) (f_11:Int):Int→Option (bL Int (Ex Unit Int)):=
 fun t8=>
 bif (decide (t8<(s_.length:Int)))then
 (iU (at' s_ t8.toNat) f_ f_1 f_2 f_3 f_4 f_5 f_6 f_7 f_8 f_9 f_10 f_11).bind fun r_=>
 bA ((0:Int)≤t8∧t8<(s_.length:Int)) (
 bif r_ then
 some (.done (.ret t8))
 else
 some (.next (IntKind.wrap .i64 (t8+1))))
 else
 some (.done (.brk ()))
def gL (s_:(List Part)) (f_:Int) (f_1:(List Source)) (f_2:(List Link)) (f_3:(List aU)) (f_4:(List Bool)) (f_5:(List Bool)) (f_6:(List Bool)) (f_7:(List Bool)) (f_8:(List Bool)) (f_9:(List Bool)) (f_10:(List Bool)) (f_11:Int):Option Int:=
 Option.bind (aN (iJ s_ f_ f_1 f_2 f_3 f_4 f_5 f_6 f_7 f_8 f_9 f_10 f_11) FUEL (0)) fun o=>match o with
 | .ret v=>some v
 | .brk _=>
 some (-1)
def lu (a:(List Int)) (b:(List Int)):Int→Option (bL Int (Ex Unit Bool)):=
 fun i=>
 bif (decide (i<(a.length:Int)))then
 bA (((0:Int)≤i∧i<(a.length:Int))∧((0:Int)≤i∧i<(b.length:Int))) (
 bif (!decide ((at' a i.toNat)=(at' b i.toNat)))then
 some (.done (.ret false))
 else
 some (.next (IntKind.wrap .i64 (i+1))))
 else
 some (.done (.brk ()))
def o8 (a:(List Int)) (b:(List Int)):Option Bool:=
 bif (!decide ((a.length:Int)=(b.length:Int)))then
 some false
 else
 Option.bind (aN (lu a b) FUEL (0)) fun o=>match o with
 | .ret v=>some v
 | .brk _=>
 some true
def fV (del:Int) (del1:(List Source)) (del2:(List Link)) (del3:(List aU)) (del4:(List Bool)) (del5:(List Bool)) (del6:(List Bool)) (del7:(List Bool)) (del8:(List Bool)) (del9:(List Bool)) (del10:(List Bool)) (del11:Int):((List Part) × Int × Int)→Option (bL ((List Part) × Int × Int) (Ex ((List Part) × Int) (List Part))):=
 fun zz=>match zz with
 |(o_,i,j)=>
 bif (decide (j<(o_.length:Int)))then
 bA ((0:Int)≤j∧j<(o_.length:Int)) (
 (iU (at' o_ j.toNat) del del1 del2 del3 del4 del5 del6 del7 del8 del9 del10 del11).bind fun r_1=>
 bif (!r_1)then
 bA ((0:Int)≤i∧i<(o_.length:Int)) (
 some (.next ((o_.set i.toNat (at' o_ j.toNat)),(IntKind.wrap .i64 (i+1)),(IntKind.wrap .i64 (j+1)))))
 else
 some (.next (o_,i,(IntKind.wrap .i64 (j+1)))))
 else
 some (.done (.brk (o_,i)))
def iC (s_:(List Part)) (del:Int) (del1:(List Source)) (del2:(List Link)) (del3:(List aU)) (del4:(List Bool)) (del5:(List Bool)) (del6:(List Bool)) (del7:(List Bool)) (del8:(List Bool)) (del9:(List Bool)) (del10:(List Bool)) (del11:Int):Option (List Part):=
 (gL s_ del del1 del2 del3 del4 del5 del6 del7 del8 del9 del10 del11).bind fun r_=>
 bif (decide (r_=(-1)))then
 some s_
 else
 Option.bind (aN (fV del del1 del2 del3 del4 del5 del6 del7 del8 del9 del10 del11) FUEL (s_,r_,(IntKind.wrap .i64 (r_+1)))) fun o=>match o with
 | .ret v=>some v
 | .brk (o_1,i1)=>
 bA ((0:Int)≤i1∧i1≤(o_1.length:Int)) (
 bA ((0:Int)≤i1∧i1≤((BJ o_1 i1.toNat (⟨0,0⟩:Part)).length:Int)) (
 some ((BJ o_1 i1.toNat (⟨0,0⟩:Part)).take i1.toNat)))
def jS (p:au) (s_:State) (rack:Int):Option ((List Part) × Int):=
 (jo p s_ rack).bind fun r_=>
 bif (!decide (r_=0))then
 some (([]:List Part),r_)
 else
 (nP p s_ rack).bind fun r_1=>
 bif (!r_1)then
 some (([]:List Part),0)
 else
 (mg p s_).bind fun r_2=>
 (iC r_2 p.buses p.sources p.links p.racks s_.closed s_.locked s_.badLink s_.on_ s_.badSource s_.earthed s_.badBus rack).bind fun r_3=>
 some (r_3,0)
def gD (r_3:Int) (r_7:Int) (r_8:((List Part) × Int)):((List Int) × Int)→Option (bL ((List Int) × Int) (Ex (List Int) (bL ((List Int) × Int) (Ex (List Int) Bool)))):=
 fun zz=>match zz with
 |(want2,i)=>
 bif (decide (i<(r_8.1.length:Int)))then
 bA ((0:Int)≤i∧i<(r_8.1.length:Int)) (
 bif ((decide (((at' r_8.1 i.toNat).kind)=1)) && ((decide (((at' r_8.1 i.toNat).index)=r_3)) && true))then
 bA (((want2.length+[r_7].length)*8≤140737488355328)∧(want2.length+[r_7].length≤4611686018427387904)) (
 some (.next ((want2++[r_7]),(IntKind.wrap .i64 (i+1)))))
 else
 some (.next (want2,(IntKind.wrap .i64 (i+1)))))
 else
 some (.done (.brk want2))
def gy (p:au) (s_:State) (r_3:Int):((List Int) × Int)→Option (bL ((List Int) × Int) (Ex (List Int) Bool)):=
 fun zz=>match zz with
 |(want,r_7)=>
 bif (decide (r_7<(p.racks.length:Int)))then
 (jS p s_ r_7).bind fun r_8=>
 bif (!decide (r_8.2=0))then
 some (.done (.ret false))
 else
 Option.bind (aN (gD r_3 r_7 r_8) FUEL (want,0)) fun o=>match o with
 | .ret v=>some v
 | .brk want3=>
 some (.next (want3,(IntKind.wrap .i64 (r_7+1))))
 else
 some (.done (.brk want))
def ku (p:au) (s_:State) (bus:Int):Option Bool:=
 (Dc p).bind fun r_=>
 (bif gB [(r_,false)]then bV p s_ else some default).bind fun r_1=>
 bif (bif r_ then true else(!decide (r_1=0)))then
 (qN).bind fun r_2=>
 some r_2
 else
 (yI bus p.buses).bind fun r_3=>
 (kZ p s_ r_3).bind fun r_4=>
 bif (!decide (r_4.2=0))then
 some false
 else
 bif (!r_4.1)then
 (qN).bind fun r_5=>
 some r_5
 else
 (rW p s_ r_3).bind fun r_6=>
 bif (!decide (r_6.2=0))then
 some false
 else
 Option.bind (aN (gy p s_ r_3) FUEL (([]:List Int),0)) fun o=>match o with
 | .ret v=>some v
 | .brk want1=>
 (o8 r_6.1 want1).bind fun r_9=>
 (bif gB [(r_9,true)]then qN else some default).bind fun r_10=>
 some (bif r_9 then r_10 else false)
end Sg
