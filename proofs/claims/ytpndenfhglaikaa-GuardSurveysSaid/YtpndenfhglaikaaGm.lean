import Derived.Test.YtpndenfhglaikaaLc
set_option linter.all false
namespace Sg
open Go
structure Source where
 bus:Int
 kind:Int
 power:Int
 sync:Int
 bK:Int
instance:Inhabited Source:=⟨⟨default,default,default,default,default⟩⟩
def Source.cell (x:Source):Nat→DV
 |0=>(.int .i64 x.bus)
 |1=>(.int .i64 x.kind)
 |2=>(.int .i64 x.power)
 |3=>(.int .i64 x.sync)
 |4=>(.int .i64 x.bK)
 |_=> .nilp
structure dU where
 amps:Int
 millis:Int
instance:Inhabited dU:=⟨⟨default,default⟩⟩
def dU.cell (x:dU):Nat→DV
 |0=>(.int .i64 x.amps)
 |1=>(.int .i64 x.millis)
 |_=> .nilp
structure Link where
 a:Int
 b:Int
 kind:Int
 most:Int
 bK:Int
 trip:(List dU)
instance:Inhabited Link:=⟨⟨default,default,default,default,default,default⟩⟩
def Link.cell (x:Link):Nat→DV
 |0=>(.int .i64 x.a)
 |1=>(.int .i64 x.b)
 |2=>(.int .i64 x.kind)
 |3=>(.int .i64 x.most)
 |4=>(.int .i64 x.bK)
 |5=>(aC none 2 dU.cell x.trip)
 |_=> .nilp
structure bB where
 e0:Int
 e1:Int
instance:Inhabited bB:=⟨⟨default,default⟩⟩
def bB.cell (x:bB):Nat→DV
 |0=>(.int .i64 x.e0)
 |1=>(.int .i64 x.e1)
 |_=> .nilp
structure aJ where
 feeds:bB
 power:Int
 paths:Int
instance:Inhabited aJ:=⟨⟨default,default,default⟩⟩
def aJ.cell (x:aJ):Nat→DV
 |0=>(.int .i64 x.feeds.e0)
 |1=>(.int .i64 x.feeds.e1)
 |2=>(.int .i64 x.power)
 |3=>(.int .i64 x.paths)
 |_=> .nilp
structure ai where
 buses:Int
 sources:(List Source)
 links:(List Link)
 racks:(List aJ)
instance:Inhabited ai:=⟨⟨default,default,default,default⟩⟩
def ai.cell (x:ai):Nat→DV
 |0=>(.int .i64 x.buses)
 |1=>(aC none 5 Source.cell x.sources)
 |2=>(aC none 6 Link.cell x.links)
 |3=>(aC none 4 aJ.cell x.racks)
 |_=> .nilp
structure State where
 closed:(List Bool)
 locked:(List Bool)
 badLink:(List Bool)
 on_:(List Bool)
 badSource:(List Bool)
 earthed:(List Bool)
 badBus:(List Bool)
instance:Inhabited State:=⟨⟨default,default,default,default,default,default,default⟩⟩
def State.cell (x:State):Nat→DV
 |0=>(aC none 1 ah x.closed)
 |1=>(aC none 1 ah x.locked)
 |2=>(aC none 1 ah x.badLink)
 |3=>(aC none 1 ah x.on_)
 |4=>(aC none 1 ah x.badSource)
 |5=>(aC none 1 ah x.earthed)
 |6=>(aC none 1 ah x.badBus)
 |_=> .nilp
structure dL where
 l:(List Bool)
 n:Int
instance:Inhabited dL:=⟨⟨default,default⟩⟩
def dL.cell (x:dL):Nat→DV
 |0=>(aC none 1 ah x.l)
 |1=>(.int .i64 x.n)
 |_=> .nilp
structure Way where
 there:Bool
 bK:Int
 links:(List Int)
instance:Inhabited Way:=⟨⟨default,default,default⟩⟩
def Way.cell (x:Way):Nat→DV
 |0=>(.bool x.there)
 |1=>(.int .i64 x.bK)
 |2=>(aC none 1 (aA .i64) x.links)
 |_=> .nilp
structure Short where
 source:Int
 bK:Int
 amps:Int
 links:(List Int)
instance:Inhabited Short:=⟨⟨default,default,default,default⟩⟩
def Short.cell (x:Short):Nat→DV
 |0=>(.int .i64 x.source)
 |1=>(.int .i64 x.bK)
 |2=>(.int .i64 x.amps)
 |3=>(aC none 1 (aA .i64) x.links)
 |_=> .nilp
structure Event where
 millis:Int
 link:Int
instance:Inhabited Event:=⟨⟨default,default⟩⟩
def Event.cell (x:Event):Nat→DV
 |0=>(.int .i64 x.millis)
 |1=>(.int .i64 x.link)
 |_=> .nilp
structure aj where
 events:(List Event)
 cleared:Bool
 millis:Int
 energy:Int
 state:State
instance:Inhabited aj:=⟨⟨default,default,default,default,default⟩⟩
def aj.cell (x:aj):Nat→DV
 |0=>(aC none 2 Event.cell x.events)
 |1=>(.bool x.cleared)
 |2=>(.int .i64 x.millis)
 |3=>(.int .i64 x.energy)
 |4=>(aC none 1 ah x.state.closed)
 |5=>(aC none 1 ah x.state.locked)
 |6=>(aC none 1 ah x.state.badLink)
 |7=>(aC none 1 ah x.state.on_)
 |8=>(aC none 1 ah x.state.badSource)
 |9=>(aC none 1 ah x.state.earthed)
 |10=>(aC none 1 ah x.state.badBus)
 |_=> .nilp
structure Machine where
 clearing:aj
 p:ai
 bus:Int
 amps:(List Int)
 total:Int
 since:(List (Int × Int))
 now:Int
instance:Inhabited Machine:=⟨⟨default,default,default,default,default,default,default⟩⟩
def Machine.cell (x:Machine):Nat→DV
 |0=>(aC none 2 Event.cell x.clearing.events)
 |1=>(.bool x.clearing.cleared)
 |2=>(.int .i64 x.clearing.millis)
 |3=>(.int .i64 x.clearing.energy)
 |4=>(aC none 1 ah x.clearing.state.closed)
 |5=>(aC none 1 ah x.clearing.state.locked)
 |6=>(aC none 1 ah x.clearing.state.badLink)
 |7=>(aC none 1 ah x.clearing.state.on_)
 |8=>(aC none 1 ah x.clearing.state.badSource)
 |9=>(aC none 1 ah x.clearing.state.earthed)
 |10=>(aC none 1 ah x.clearing.state.badBus)
 |11=>(.int .i64 x.p.buses)
 |12=>(aC none 5 Source.cell x.p.sources)
 |13=>(aC none 6 Link.cell x.p.links)
 |14=>(aC none 4 aJ.cell x.p.racks)
 |15=>(.int .i64 x.bus)
 |16=>(aC none 1 (aA .i64) x.amps)
 |17=>(.int .i64 x.total)
 |18=> .nilp
 |19=>(.int .i64 x.now)
 |_=> .nilp
structure Part where
 kind:Int
 index:Int
instance:Inhabited Part:=⟨⟨default,default⟩⟩
def Part.cell (x:Part):Nat→DV
 |0=>(.int .i64 x.kind)
 |1=>(.int .i64 x.index)
 |_=> .nilp
structure aF where
 head:(List (Int × Int))
instance:Inhabited aF:=⟨⟨default⟩⟩
def aF.cell (x:aF):Nat→DV
 |0=> .nilp
 |_=> .nilp
structure aM where
 buses:(List Int)
 sources:(List Int)
instance:Inhabited aM:=⟨⟨default,default⟩⟩
def aM.cell (x:aM):Nat→DV
 |0=>(aC none 1 (aA .i64) x.buses)
 |1=>(aC none 1 (aA .i64) x.sources)
 |_=> .nilp
structure aN where
 e0:Bool
 e1:Bool
instance:Inhabited aN:=⟨⟨default,default⟩⟩
def aN.cell (x:aN):Nat→DV
 |0=>(.bool x.e0)
 |1=>(.bool x.e1)
 |_=> .nilp
structure af where
 events:(List Event)
 cleared:Bool
 millis:Int
 energy:Int
 state:State
instance:Inhabited af:=⟨⟨default,default,default,default,default⟩⟩
def af.cell (x:af):Nat→DV
 |0=>(aC none 2 Event.cell x.events)
 |1=>(.bool x.cleared)
 |2=>(.int .i64 x.millis)
 |3=>(.int .i64 x.energy)
 |4=>(aC none 1 ah x.state.closed)
 |5=>(aC none 1 ah x.state.locked)
 |6=>(aC none 1 ah x.state.badLink)
 |7=>(aC none 1 ah x.state.on_)
 |8=>(aC none 1 ah x.state.badSource)
 |9=>(aC none 1 ah x.state.earthed)
 |10=>(aC none 1 ah x.state.badBus)
 |_=> .nilp
def aM.ev (x:aM):Nat→EV
 |0=> .row 3 1 x.buses.length (au (aA .i64) x.buses)
 |1=> .row 3 1 x.sources.length (au (aA .i64) x.sources)
 |_=> .d .nilp
def aV (n:Int) (first:Int) (last:Int):Option Bool:=
 some (bif (decide (first≤n))then(decide (n≤last))else false)
def pY (p:ai):Option (Int × (List Source) × (List Link) × (List aJ)):=
 some (p.buses,p.sources,p.links,p.racks)
def uG (p:ai):Option (Int × (List Source) × (List Link) × (List aJ)):=
 some (p.buses,p.sources,p.links,p.racks)
def uK (p:ai):Option (Int × (List Source) × (List Link) × (List aJ)):=
 some (p.buses,p.sources,p.links,p.racks)
def kg (x:Source) (x1:Int) (x11:(List Source)) (x12:(List Link)) (x13:(List aJ)):Option Bool:=
 (aV x.bus 0 (IntKind.wrap .i64 (x1 - 1))).bind fun r_=>
 (bif gB [(r_,true)]then aV x.kind 1 3 else some default).bind fun r_1=>
 (bif gB [((bif r_ then r_1 else false),true)]then aV x.power 1 100000 else some default).bind fun r_2=>
 (bif gB [((bif (bif r_ then r_1 else false)then r_2 else false),true)]then aV x.sync 0 8 else some default).bind fun r_3=>
 (bif gB [((bif (bif (bif r_ then r_1 else false)then r_2 else false)then r_3 else false),true)]then aV x.bK 10 100000 else some default).bind fun r_4=>
 some (bif (bif (bif (bif r_ then r_1 else false)then r_2 else false)then r_3 else false)then r_4 else false)
def qw (x:Source) (x1:Int) (x11:(List Source)) (x12:(List Link)) (x13:(List aJ)):Option Bool:=
 (kg x x1 x11 x12 x13).bind fun r_=>
 some (!r_)
def jm (s_:(List Source)) (f_:Int) (f_1:(List Source)) (f_2:(List Link)) (f_3:(List aJ)):Int→Option (aS Int (Ex Unit Int)):=
 fun t8=>
 bif (decide (t8<(s_.length:Int)))then
 (qw (at' s_ t8.toNat) f_ f_1 f_2 f_3).bind fun r_=>
 bX ((0:Int)≤t8∧t8<(s_.length:Int)) (
 bif r_ then
 some (.done (.ret t8))
 else
 some (.next (IntKind.wrap .i64 (t8+1))))
 else
 some (.done (.brk ()))
def kP (s_:(List Source)) (f_:Int) (f_1:(List Source)) (f_2:(List Link)) (f_3:(List aJ)):Option Int:=
 Option.bind (aD (jm s_ f_ f_1 f_2 f_3) FUEL (0)) fun o=>match o with
 | .ret v=>some v
 | .brk _=>
 some (-1)
def gH (s_:(List Source)) (f_:Int) (f_1:(List Source)) (f_2:(List Link)) (f_3:(List aJ)):Option Bool:=
 (kP s_ f_ f_1 f_2 f_3).bind fun r_=>
 some (decide (0≤r_))
def pX (l:(List Source)) (most:Int) (right:Int) (right1:(List Source)) (right2:(List Link)) (right3:(List aJ)):Option Bool:=
 (bif gB [((decide ((l.length:Int)≤most)),true)]then gH l right right1 right2 right3 else some default).bind fun r_=>
 some (bif (decide ((l.length:Int)≤most))then(!r_)else false)
def jB (x:Link):Int→Option (aS Int (Ex Unit Bool)):=
 fun t50=>
 bif (decide (t50<(x.trip.length:Int)))then
 bX ((0:Int)≤t50∧t50<(x.trip.length:Int)) (
 (aV ((at' x.trip t50.toNat).amps) 1 1000000).bind fun r_5=>
 (bif gB [((!r_5),false)]then aV ((at' x.trip t50.toNat).millis) 1 100000 else some default).bind fun r_6=>
 bX ((gB [((decide (0<t50)),true),((bif (!r_5)then true else(!r_6)),false)]=true→(0:Int)≤(IntKind.wrap .i64 (t50 - 1))∧(IntKind.wrap .i64 (t50 - 1))<(x.trip.length:Int))∧(gB [((decide (((at' x.trip t50.toNat).amps)≤((at' x.trip ((IntKind.wrap .i64 (t50 - 1)).toNat)).amps))),false),((decide (0<t50)),true),((bif (!r_5)then true else(!r_6)),false)]=true→(0:Int)≤(IntKind.wrap .i64 (t50 - 1))∧(IntKind.wrap .i64 (t50 - 1))<(x.trip.length:Int))) (
 bif (bif (bif (!r_5)then true else(!r_6))then true else(bif (decide (0<t50))then(bif (decide (((at' x.trip t50.toNat).amps)≤((at' x.trip ((IntKind.wrap .i64 (t50 - 1)).toNat)).amps)))then true else(decide (((at' x.trip ((IntKind.wrap .i64 (t50 - 1)).toNat)).millis)≤((at' x.trip t50.toNat).millis))))else false))then
 some (.done (.ret false))
 else
 some (.next (IntKind.wrap .i64 (t50+1)))))
 else
 some (.done (.brk ()))
def mW (x:Link) (x1:Int) (x11:(List Source)) (x12:(List Link)) (x13:(List aJ)):Option Bool:=
 (aV x.a 0 (IntKind.wrap .i64 (x1 - 1))).bind fun r_=>
 (bif gB [((!r_),false)]then aV x.b 0 (IntKind.wrap .i64 (x1 - 1))else some default).bind fun r_1=>
 (bif gB [((bif (bif (!r_)then true else(!r_1))then true else(decide (x.a=x.b))),false)]then aV x.kind 1 3 else some default).bind fun r_2=>
 (bif gB [((bif (bif (bif (!r_)then true else(!r_1))then true else(decide (x.a=x.b)))then true else(!r_2)),false)]then aV x.most 1 100000 else some default).bind fun r_3=>
 (bif gB [((bif (bif (bif (bif (!r_)then true else(!r_1))then true else(decide (x.a=x.b)))then true else(!r_2))then true else(!r_3)),false)]then aV x.bK 10 100000 else some default).bind fun r_4=>
 bif (bif (bif (bif (bif (bif (!r_)then true else(!r_1))then true else(decide (x.a=x.b)))then true else(!r_2))then true else(!r_3))then true else(!r_4))then
 some false
 else
 Option.bind (aD (jB x) FUEL (0)) fun o=>match o with
 | .ret v=>some v
 | .brk _=>
 some (bif (decide ((x.trip.length:Int)≤6))then(bif (decide ((x.trip.length:Int)=0))then true else(decide (x.kind=3)))else false)
def lY (x:Link) (x1:Int) (x11:(List Source)) (x12:(List Link)) (x13:(List aJ)):Option Bool:=
 (mW x x1 x11 x12 x13).bind fun r_=>
 some (!r_)
def ig (s_:(List Link)) (f_:Int) (f_1:(List Source)) (f_2:(List Link)) (f_3:(List aJ)):Int→Option (aS Int (Ex Unit Int)):=
 fun t8=>
 bif (decide (t8<(s_.length:Int)))then
 (lY (at' s_ t8.toNat) f_ f_1 f_2 f_3).bind fun r_=>
 bX ((0:Int)≤t8∧t8<(s_.length:Int)) (
 bif r_ then
 some (.done (.ret t8))
 else
 some (.next (IntKind.wrap .i64 (t8+1))))
 else
 some (.done (.brk ()))
def jk (s_:(List Link)) (f_:Int) (f_1:(List Source)) (f_2:(List Link)) (f_3:(List aJ)):Option Int:=
 Option.bind (aD (ig s_ f_ f_1 f_2 f_3) FUEL (0)) fun o=>match o with
 | .ret v=>some v
 | .brk _=>
 some (-1)
def eU (s_:(List Link)) (f_:Int) (f_1:(List Source)) (f_2:(List Link)) (f_3:(List aJ)):Option Bool:=
 (jk s_ f_ f_1 f_2 f_3).bind fun r_=>
 some (decide (0≤r_))
def mY (l:(List Link)) (most:Int) (right:Int) (right1:(List Source)) (right2:(List Link)) (right3:(List aJ)):Option Bool:=
 (bif gB [((decide ((l.length:Int)≤most)),true)]then eU l right right1 right2 right3 else some default).bind fun r_=>
 some (bif (decide ((l.length:Int)≤most))then(!r_)else false)
def nR (x:aJ):Option Int:=
 bif (decide (x.feeds.e1=(-1)))then
 some 1
 else
 some 2
def mV (x:aJ) (x1:Int) (x11:(List Source)) (x12:(List Link)) (x13:(List aJ)):Option Bool:=
 (aV x.feeds.e0 0 (IntKind.wrap .i64 (x1 - 1))).bind fun r_=>
 (bif gB [(r_,true)]then aV x.feeds.e1 (-1) (IntKind.wrap .i64 (x1 - 1))else some default).bind fun r_1=>
 (bif gB [((bif (bif r_ then r_1 else false)then(!decide (x.feeds.e0=x.feeds.e1))else false),true)]then aV x.power 1 100000 else some default).bind fun r_2=>
 (bif gB [((bif (bif (bif r_ then r_1 else false)then(!decide (x.feeds.e0=x.feeds.e1))else false)then r_2 else false),true)]then nR x else some default).bind fun r_3=>
 (bif gB [((bif (bif (bif r_ then r_1 else false)then(!decide (x.feeds.e0=x.feeds.e1))else false)then r_2 else false),true)]then aV x.paths 0 r_3 else some default).bind fun r_4=>
 some (bif (bif (bif (bif r_ then r_1 else false)then(!decide (x.feeds.e0=x.feeds.e1))else false)then r_2 else false)then r_4 else false)
def lZ (x:aJ) (x1:Int) (x11:(List Source)) (x12:(List Link)) (x13:(List aJ)):Option Bool:=
 (mV x x1 x11 x12 x13).bind fun r_=>
 some (!r_)
def ic (s_:(List aJ)) (f_:Int) (f_1:(List Source)) (f_2:(List Link)) (f_3:(List aJ)):Int→Option (aS Int (Ex Unit Int)):=
 fun t8=>
 bif (decide (t8<(s_.length:Int)))then
 (lZ (⟨((at' s_ t8.toNat).feeds),(at' s_ t8.toNat).power,(at' s_ t8.toNat).paths⟩:aJ) f_ f_1 f_2 f_3).bind fun r_=>
 bX ((0:Int)≤t8∧t8<(s_.length:Int)) (
 bif r_ then
 some (.done (.ret t8))
 else
 some (.next (IntKind.wrap .i64 (t8+1))))
 else
 some (.done (.brk ()))
def jo (s_:(List aJ)) (f_:Int) (f_1:(List Source)) (f_2:(List Link)) (f_3:(List aJ)):Option Int:=
 Option.bind (aD (ic s_ f_ f_1 f_2 f_3) FUEL (0)) fun o=>match o with
 | .ret v=>some v
 | .brk _=>
 some (-1)
def eX (s_:(List aJ)) (f_:Int) (f_1:(List Source)) (f_2:(List Link)) (f_3:(List aJ)):Option Bool:=
 (jo s_ f_ f_1 f_2 f_3).bind fun r_=>
 some (decide (0≤r_))
def mE (l:(List aJ)) (most:Int) (right:Int) (right1:(List Source)) (right2:(List Link)) (right3:(List aJ)):Option Bool:=
 (bif gB [((decide ((l.length:Int)≤most)),true)]then eX l right right1 right2 right3 else some default).bind fun r_=>
 some (bif (decide ((l.length:Int)≤most))then(!r_)else false)
def lH (p:ai):Option Int:=
 (aV p.buses 1 24).bind fun r_=>
 bif (!r_)then
 some 10
 else
 (pY p).bind fun r_1=>
 (pX p.sources 8 r_1.1 r_1.2.1 r_1.2.2.1 r_1.2.2.2).bind fun r_2=>
 bif (!r_2)then
 some 11
 else
 (uG p).bind fun r_3=>
 (mY p.links 40 r_3.1 r_3.2.1 r_3.2.2.1 r_3.2.2.2).bind fun r_4=>
 bif (!r_4)then
 some 12
 else
 (uK p).bind fun r_5=>
 (mE p.racks 24 r_5.1 r_5.2.1 r_5.2.2.1 r_5.2.2.2).bind fun r_6=>
 bif (!r_6)then
 some 13
 else
 some 0
def gK (p:ai) (s_:State):Int→Option (aS Int (Ex Unit Int)):=
 fun t55=>
 bif (decide (t55<([(⟨s_.closed,(p.links.length:Int)⟩:dL),(⟨s_.locked,(p.links.length:Int)⟩:dL),(⟨s_.badLink,(p.links.length:Int)⟩:dL),(⟨s_.on_,(p.sources.length:Int)⟩:dL),(⟨s_.badSource,(p.sources.length:Int)⟩:dL),(⟨s_.earthed,p.buses⟩:dL),(⟨s_.badBus,p.buses⟩:dL)].length:Int)))then
 bX ((0:Int)≤t55∧t55<([(⟨s_.closed,(p.links.length:Int)⟩:dL),(⟨s_.locked,(p.links.length:Int)⟩:dL),(⟨s_.badLink,(p.links.length:Int)⟩:dL),(⟨s_.on_,(p.sources.length:Int)⟩:dL),(⟨s_.badSource,(p.sources.length:Int)⟩:dL),(⟨s_.earthed,p.buses⟩:dL),(⟨s_.badBus,p.buses⟩:dL)].length:Int)) (
 bif (!decide ((((at' [(⟨s_.closed,(p.links.length:Int)⟩:dL),(⟨s_.locked,(p.links.length:Int)⟩:dL),(⟨s_.badLink,(p.links.length:Int)⟩:dL),(⟨s_.on_,(p.sources.length:Int)⟩:dL),(⟨s_.badSource,(p.sources.length:Int)⟩:dL),(⟨s_.earthed,p.buses⟩:dL),(⟨s_.badBus,p.buses⟩:dL)] t55.toNat).l).length:Int)=((at' [(⟨s_.closed,(p.links.length:Int)⟩:dL),(⟨s_.locked,(p.links.length:Int)⟩:dL),(⟨s_.badLink,(p.links.length:Int)⟩:dL),(⟨s_.on_,(p.sources.length:Int)⟩:dL),(⟨s_.badSource,(p.sources.length:Int)⟩:dL),(⟨s_.earthed,p.buses⟩:dL),(⟨s_.badBus,p.buses⟩:dL)] t55.toNat).n)))then
 some (.done (.ret 9))
 else
 some (.next (IntKind.wrap .i64 (t55+1))))
 else
 some (.done (.brk ()))
def gF (p:ai) (s_:State):Int→Option (aS Int (Ex Unit Int)):=
 fun t69=>
 bif (decide (t69<(p.links.length:Int)))then
 bX ((0:Int)≤t69∧t69<(p.links.length:Int)) (
 bX ((gB [((decide (((at' p.links t69.toNat).kind)=1)),true)]=true→(0:Int)≤t69∧t69<(s_.closed.length:Int))∧(gB [((!(at' s_.closed t69.toNat)),false),((decide (((at' p.links t69.toNat).kind)=1)),true)]=true→(0:Int)≤t69∧t69<(s_.locked.length:Int))) (
 bif (bif (decide (((at' p.links t69.toNat).kind)=1))then(bif (!(at' s_.closed t69.toNat))then true else(at' s_.locked t69.toNat))else false)then
 some (.done (.ret 9))
 else
 some (.next (IntKind.wrap .i64 (t69+1)))))
 else
 some (.done (.brk ()))
def dG (p:ai) (s_:State):Option Int:=
 (lH p).bind fun r_=>
 bif (!decide (r_=0))then
 some r_
 else
 Option.bind (aD (gK p s_) FUEL (0)) fun o=>match o with
 | .ret v=>some v
 | .brk _=>
 Option.bind (aD (gF p s_) FUEL (0)) fun o=>match o with
 | .ret v=>some v
 | .brk _=>
 some 0
def qp (s_:(List Bool)) (s_nn:Bool):Option (List Bool):=
 bif (!s_nn)then
 some ([]:List Bool)
 else
 bX (((([]:List Bool).length+s_.length)*1≤140737488355328)∧(([]:List Bool).length+s_.length≤4611686018427387904)) (
 some (([]:List Bool)++s_))
def bA (s:(List Bool)):Option (List Bool):=qp s true
def mK (s_:State):Option State:=
 (bA s_.closed).bind fun r_=>
 (bA s_.locked).bind fun r_1=>
 (bA s_.badLink).bind fun r_2=>
 (bA s_.on_).bind fun r_3=>
 (bA s_.badSource).bind fun r_4=>
 (bA s_.earthed).bind fun r_5=>
 (bA s_.badBus).bind fun r_6=>
 some (⟨r_,r_1,r_2,r_3,r_4,r_5,r_6⟩:State)
def pR (p:ai) (s_:State) (k:Int):Option Bool:=
 bX (((0:Int)≤k∧k<(s_.on_.length:Int))∧(gB [((at' s_.on_ k.toNat),true)]=true→(0:Int)≤k∧k<(s_.badSource.length:Int))∧(gB [((bif (at' s_.on_ k.toNat)then(!(at' s_.badSource k.toNat))else false),true)]=true→(0:Int)≤k∧k<(p.sources.length:Int))∧(gB [((bif (at' s_.on_ k.toNat)then(!(at' s_.badSource k.toNat))else false),true)]=true→(0:Int)≤(at' p.sources k.toNat).bus∧(at' p.sources k.toNat).bus<(s_.badBus.length:Int))) (
 some (bif (bif (at' s_.on_ k.toNat)then(!(at' s_.badSource k.toNat))else false)then(!(at' s_.badBus (((at' p.sources k.toNat).bus).toNat)))else false))
def lF (p:ai) (s_:State) (i:Int):Option Bool:=
 bX ((0:Int)≤i∧i<(p.links.length:Int)) (
 bX (((0:Int)≤i∧i<(s_.closed.length:Int))∧(gB [((at' s_.closed i.toNat),true)]=true→(0:Int)≤i∧i<(s_.badLink.length:Int))∧(gB [((bif (at' s_.closed i.toNat)then(!(at' s_.badLink i.toNat))else false),true)]=true→(0:Int)≤(at' p.links i.toNat).a∧(at' p.links i.toNat).a<(s_.badBus.length:Int))∧(gB [((bif (bif (at' s_.closed i.toNat)then(!(at' s_.badLink i.toNat))else false)then(!(at' s_.badBus (((at' p.links i.toNat).a).toNat)))else false),true)]=true→(0:Int)≤(at' p.links i.toNat).b∧(at' p.links i.toNat).b<(s_.badBus.length:Int))) (
 some (bif (bif (bif (at' s_.closed i.toNat)then(!(at' s_.badLink i.toNat))else false)then(!(at' s_.badBus (((at' p.links i.toNat).a).toNat)))else false)then(!(at' s_.badBus (((at' p.links i.toNat).b).toNat)))else false)))
def lW (s_:(List Int)) (s_nn:Bool):Option (List Int):=
 bif (!s_nn)then
 some ([]:List Int)
 else
 bX (((([]:List Int).length+s_.length)*8≤140737488355328)∧(([]:List Int).length+s_.length≤4611686018427387904)) (
 some (([]:List Int)++s_))
def iT (s:(List Int)):Option (List Int):=lW s true
def rR (x:Int):Option Bool:=
 some (!decide (x=x))
def oh (x:Int) (y:Int):Option Int:=
 (rR x).bind fun r_=>
 (rR y).bind fun r_1=>
 bif r_ then
 bif r_1 then
 some 0
 else
 some (-1)
 else
 bif r_1 then
 some 1
 else
 bif (decide (x<y))then
 some (-1)
 else
 bif (decide (y<x))then
 some 1
 else
 some 0
def bH (s1:(List Int)) (s2:(List Int)):Int→Option (aS Int (Ex Unit Int)):=
 fun t11=>
 bif (decide (t11<(s1.length:Int)))then
 bX ((0:Int)≤t11∧t11<(s1.length:Int)) (
 bif (decide ((s2.length:Int)≤t11))then
 some (.done (.ret 1))
 else
 bX ((0:Int)≤t11∧t11<(s2.length:Int)) (
 (oh (at' s1 t11.toNat) (at' s2 t11.toNat)).bind fun r_=>
 bif (!decide (r_=0))then
 some (.done (.ret r_))
 else
 some (.next (IntKind.wrap .i64 (t11+1)))))
 else
 some (.done (.brk ()))
def nD (s1:(List Int)) (s2:(List Int)):Option Int:=
 Option.bind (aD (bH s1 s2) FUEL (0)) fun o=>match o with
 | .ret v=>some v
 | .brk _=>
 bif (decide ((s1.length:Int)<(s2.length:Int)))then
 some (-1)
 else
 some 0
def wP (vals:(List Int)):Int→Option (aS Int (Ex Unit Int)):=
 fun t8=>
 bif (decide (t8<(vals.length:Int)))then
 bX ((0:Int)≤t8∧t8<(vals.length:Int)) (
 bif (!decide ((at' vals t8.toNat)=0))then
 some (.done (.ret (at' vals t8.toNat)))
 else
 some (.next (IntKind.wrap .i64 (t8+1))))
 else
 some (.done (.brk ()))
def BX (vals:(List Int)):Option Int:=
 Option.bind (aD (wP vals) FUEL (0)) fun o=>match o with
 | .ret v=>some v
 | .brk _=>
 some 0
def iV (a:Way) (b:Way):Option Bool:=
 bif (!b.there)then
 some true
 else
 (nD a.links b.links).bind fun r_=>
 (BX [(IntKind.wrap .i64 (a.bK - b.bK)),(IntKind.wrap .i64 ((a.links.length:Int) - (b.links.length:Int))),r_]).bind fun r_1=>
 some (decide (r_1<0))
def jh (p:ai) (t28:Int):((List Way) × Bool × Int)→Option (aS ((List Way) × Bool × Int) (Ex ((List Way) × Bool) (aS ((List Way) × Bool × Int) (Ex ((List Way) × Bool) (aS ((List Way) × Bool) (Ex (List Way) (List Way))))))):=
 fun zz=>match zz with
 |(out4,changed3,t49)=>
 bif (decide (t49<2))then
 bX ((0:Int)≤t49∧t49<((2:Nat):Int)) (
 bX ((0:Int)≤(at' [(⟨(at' p.links t28.toNat).a,(at' p.links t28.toNat).b⟩:bB),(⟨(at' p.links t28.toNat).b,(at' p.links t28.toNat).a⟩:bB)] t49.toNat).e0∧(at' [(⟨(at' p.links t28.toNat).a,(at' p.links t28.toNat).b⟩:bB),(⟨(at' p.links t28.toNat).b,(at' p.links t28.toNat).a⟩:bB)] t49.toNat).e0<(out4.length:Int)) (
 bif (!((at' out4 (((at' [(⟨(at' p.links t28.toNat).a,(at' p.links t28.toNat).b⟩:bB),(⟨(at' p.links t28.toNat).b,(at' p.links t28.toNat).a⟩:bB)] t49.toNat).e0).toNat)).there))then
 some (.next (out4,changed3,(IntKind.wrap .i64 (t49+1))))
 else
 (iT ((at' out4 (((at' [(⟨(at' p.links t28.toNat).a,(at' p.links t28.toNat).b⟩:bB),(⟨(at' p.links t28.toNat).b,(at' p.links t28.toNat).a⟩:bB)] t49.toNat).e0).toNat)).links)).bind fun r_1=>
 bX (((r_1.length+[t28].length)*8≤140737488355328)∧(r_1.length+[t28].length≤4611686018427387904)) (
 (iV (⟨true,(IntKind.wrap .i64 (((at' out4 (((at' [(⟨(at' p.links t28.toNat).a,(at' p.links t28.toNat).b⟩:bB),(⟨(at' p.links t28.toNat).b,(at' p.links t28.toNat).a⟩:bB)] t49.toNat).e0).toNat)).bK)+((at' p.links t28.toNat).bK))),(r_1++[t28])⟩:Way) (at' out4 (((at' [(⟨(at' p.links t28.toNat).a,(at' p.links t28.toNat).b⟩:bB),(⟨(at' p.links t28.toNat).b,(at' p.links t28.toNat).a⟩:bB)] t49.toNat).e1).toNat))).bind fun r_2=>
 bX ((0:Int)≤(at' [(⟨(at' p.links t28.toNat).a,(at' p.links t28.toNat).b⟩:bB),(⟨(at' p.links t28.toNat).b,(at' p.links t28.toNat).a⟩:bB)] t49.toNat).e1∧(at' [(⟨(at' p.links t28.toNat).a,(at' p.links t28.toNat).b⟩:bB),(⟨(at' p.links t28.toNat).b,(at' p.links t28.toNat).a⟩:bB)] t49.toNat).e1<(out4.length:Int)) (
 bif r_2 then
 bX ((0:Int)≤(at' [(⟨(at' p.links t28.toNat).a,(at' p.links t28.toNat).b⟩:bB),(⟨(at' p.links t28.toNat).b,(at' p.links t28.toNat).a⟩:bB)] t49.toNat).e1∧(at' [(⟨(at' p.links t28.toNat).a,(at' p.links t28.toNat).b⟩:bB),(⟨(at' p.links t28.toNat).b,(at' p.links t28.toNat).a⟩:bB)] t49.toNat).e1<(out4.length:Int)) (
 some (.next ((out4.set (((at' [(⟨(at' p.links t28.toNat).a,(at' p.links t28.toNat).b⟩:bB),(⟨(at' p.links t28.toNat).b,(at' p.links t28.toNat).a⟩:bB)] t49.toNat).e1).toNat) (⟨true,(IntKind.wrap .i64 (((at' out4 (((at' [(⟨(at' p.links t28.toNat).a,(at' p.links t28.toNat).b⟩:bB),(⟨(at' p.links t28.toNat).b,(at' p.links t28.toNat).a⟩:bB)] t49.toNat).e0).toNat)).bK)+((at' p.links t28.toNat).bK))),(r_1++[t28])⟩:Way)),true,(IntKind.wrap .i64 (t49+1)))))
 else
 some (.next (out4,changed3,(IntKind.wrap .i64 (t49+1))))))))
 else
 some (.done (.brk (out4,changed3)))
def mH (p:ai) (s_:State):((List Way) × Bool × Int)→Option (aS ((List Way) × Bool × Int) (Ex ((List Way) × Bool) (aS ((List Way) × Bool) (Ex (List Way) (List Way))))):=
 fun zz=>match zz with
 |(out2,changed1,t28)=>
 bif (decide (t28<(p.links.length:Int)))then
 bX ((0:Int)≤t28∧t28<(p.links.length:Int)) (
 (lF p s_ t28).bind fun r_=>
 bif (!r_)then
 some (.next (out2,changed1,(IntKind.wrap .i64 (t28+1))))
 else
 Option.bind (aD (jh p t28) FUEL (out2,changed1,0)) fun o=>match o with
 | .ret v=>some v
 | .brk (out5,changed4)=>
 some (.next (out5,changed4,(IntKind.wrap .i64 (t28+1)))))
 else
 some (.done (.brk (out2,changed1)))
def kF (p:ai) (s_:State):((List Way) × Bool)→Option (aS ((List Way) × Bool) (Ex (List Way) (List Way))):=
 fun zz=>match zz with
 |(out,changed)=>
 bif changed then
 Option.bind (aD (mH p s_) FUEL (out,false,0)) fun o=>match o with
 | .ret v=>some v
 | .brk (out3,changed2)=>
 some (.next (out3,changed2))
 else
 some (.done (.brk out))
def mg (p:ai) (s_:State) (bus:Int):Option (List Way):=
 bX (((0:Int)≤p.buses)∧((40:Int)*p.buses≤281474976710656)∧((p.buses:Int)≤9223372036854775807)) (
 bX ((0:Int)≤bus∧bus<((List.replicate p.buses.toNat ((⟨false,0,([]:List Int)⟩:Way):Way)).length:Int)) (
 Option.bind (aD (kF p s_) FUEL (((List.replicate p.buses.toNat ((⟨false,0,([]:List Int)⟩:Way):Way)).set bus.toNat (⟨true,(at' (List.replicate p.buses.toNat ((⟨false,0,([]:List Int)⟩:Way):Way)) bus.toNat).bK,(at' (List.replicate p.buses.toNat ((⟨false,0,([]:List Int)⟩:Way):Way)) bus.toNat).links⟩:Way)),true)) fun o=>match o with
 | .ret v=>some v
 | .brk out1=>
 some out1))
def kD (p:ai) (s_:State) (bus:Int):((List Short) × Int)→Option (aS ((List Short) × Int) (Ex (List Short) ((List Short) × Int))):=
 fun zz=>match zz with
 |(out,t31)=>
 bif (decide (t31<(p.sources.length:Int)))then
 bX ((0:Int)≤t31∧t31<(p.sources.length:Int)) (
 (bif gB [((at' s_.badBus bus.toNat),false)]then pR p s_ t31 else some default).bind fun r_1=>
 bX ((0:Int)≤bus∧bus<(s_.badBus.length:Int)) (
 bif (bif (at' s_.badBus bus.toNat)then true else(!r_1))then
 some (.next (out,(IntKind.wrap .i64 (t31+1))))
 else
 (mg p s_ ((at' p.sources t31.toNat).bus)).bind fun r_2=>
 bX ((0:Int)≤bus∧bus<(r_2.length:Int)) (
 bif ((at' r_2 bus.toNat).there)then
 bX (((IntKind.wrap .i64 (((at' p.sources t31.toNat).bK)+((at' r_2 bus.toNat).bK)))≠(0:Int))∧((out.length+[(⟨t31,(IntKind.wrap .i64 (((at' p.sources t31.toNat).bK)+((at' r_2 bus.toNat).bK))),(IntKind.wrap .i64 (Int.tdiv (IntKind.wrap .i64 ((IntKind.wrap .i64 ((400000:Int)+(IntKind.wrap .i64 (((at' p.sources t31.toNat).bK)+((at' r_2 bus.toNat).bK))))) - 1)) (IntKind.wrap .i64 (((at' p.sources t31.toNat).bK)+((at' r_2 bus.toNat).bK))))),(at' r_2 bus.toNat).links⟩:Short)].length)*48≤140737488355328)∧(out.length+[(⟨t31,(IntKind.wrap .i64 (((at' p.sources t31.toNat).bK)+((at' r_2 bus.toNat).bK))),(IntKind.wrap .i64 (Int.tdiv (IntKind.wrap .i64 ((IntKind.wrap .i64 ((400000:Int)+(IntKind.wrap .i64 (((at' p.sources t31.toNat).bK)+((at' r_2 bus.toNat).bK))))) - 1)) (IntKind.wrap .i64 (((at' p.sources t31.toNat).bK)+((at' r_2 bus.toNat).bK))))),(at' r_2 bus.toNat).links⟩:Short)].length≤4611686018427387904)) (
 some (.next ((out++[(⟨t31,(IntKind.wrap .i64 (((at' p.sources t31.toNat).bK)+((at' r_2 bus.toNat).bK))),(IntKind.wrap .i64 (Int.tdiv (IntKind.wrap .i64 ((IntKind.wrap .i64 ((400000:Int)+(IntKind.wrap .i64 (((at' p.sources t31.toNat).bK)+((at' r_2 bus.toNat).bK))))) - 1)) (IntKind.wrap .i64 (((at' p.sources t31.toNat).bK)+((at' r_2 bus.toNat).bK))))),(at' r_2 bus.toNat).links⟩:Short)]),(IntKind.wrap .i64 (t31+1)))))
 else
 some (.next (out,(IntKind.wrap .i64 (t31+1)))))))
 else
 some (.done (.brk out))
def ol (p:ai) (s_:State) (bus:Int):Option ((List Short) × Int):=
 (dG p s_).bind fun r_=>
 bif (!decide (r_=0))then
 some (([]:List Short),r_)
 else
 bif (bif (decide (bus<0))then true else(decide (p.buses≤bus)))then
 some (([]:List Short),1)
 else
 Option.bind (aD (kD p s_ bus) FUEL (([]:List Short),0)) fun o=>match o with
 | .ret v=>some v
 | .brk out1=>
 some (out1,0)
def l7 (s_:(List Int)) (v_:Int):Int→Option (aS Int (Ex Unit Int)):=
 fun t8=>
 bif (decide (t8<(s_.length:Int)))then
 bX ((0:Int)≤t8∧t8<(s_.length:Int)) (
 bif (decide (v_=(at' s_ t8.toNat)))then
 some (.done (.ret t8))
 else
 some (.next (IntKind.wrap .i64 (t8+1))))
 else
 some (.done (.brk ()))
def pU (s_:(List Int)) (v_:Int):Option Int:=
 Option.bind (aD (l7 s_ v_) FUEL (0)) fun o=>match o with
 | .ret v=>some v
 | .brk _=>
 some (-1)
def jE (s_:(List Int)) (v_:Int):Option Bool:=
 (pU s_ v_).bind fun r_=>
 some (decide (0≤r_))
def nC (i:Int) (o_:(List Int)):Option Bool:=
 some (bif (decide (i<0))then true else(decide ((o_.length:Int)≤i)))
def iq (s_:(List Int)) (o_:(List Int)):Int→Option (aS Int (Ex Unit Int)):=
 fun t8=>
 bif (decide (t8<(s_.length:Int)))then
 (nC (at' s_ t8.toNat) o_).bind fun r_=>
 bX ((0:Int)≤t8∧t8<(s_.length:Int)) (
 bif r_ then
 some (.done (.ret t8))
 else
 some (.next (IntKind.wrap .i64 (t8+1))))
 else
 some (.done (.brk ()))
def jl (s_:(List Int)) (o_:(List Int)):Option Int:=
 Option.bind (aD (iq s_ o_) FUEL (0)) fun o=>match o with
 | .ret v=>some v
 | .brk _=>
 some (-1)
def fF (s_:(List Int)) (o_:(List Int)):Option Bool:=
 (jl s_ o_).bind fun r_=>
 some (decide (0≤r_))
def iF (l:(List Short)) (out0:(List Int)) (t25:Int):((List Int) × Int)→Option (aS ((List Int) × Int) (Ex (List Int) (aS ((List Int) × Int) (Ex (List Int) ((List Int) × Bool × Int))))):=
 fun zz=>match zz with
 |(out02,t45)=>
 bif (decide (t45<(out0.length:Int)))then
 (jE ((at' l t25.toNat).links) t45).bind fun r_2=>
 bif r_2 then
 bX ((0:Int)≤t45∧t45<(out02.length:Int)) (
 some (.next ((out02.set t45.toNat (IntKind.wrap .i64 ((at' out02 t45.toNat)+((at' l t25.toNat).amps)))),(IntKind.wrap .i64 (t45+1)))))
 else
 some (.next (out02,(IntKind.wrap .i64 (t45+1))))
 else
 some (.done (.brk out02))
def eH (l:(List Short)):((List Int) × Int)→Option (aS ((List Int) × Int) (Ex (List Int) ((List Int) × Bool × Int))):=
 fun zz=>match zz with
 |(out0,t25)=>
 bif (decide (t25<(l.length:Int)))then
 bX ((0:Int)≤t25∧t25<(l.length:Int)) (
 (bif gB [((bif (decide (((at' l t25.toNat).amps)<0))then true else(decide (1000000<((at' l t25.toNat).amps)))),false)]then fF ((at' l t25.toNat).links) out0 else some default).bind fun r_1=>
 bif (bif (bif (decide (((at' l t25.toNat).amps)<0))then true else(decide (1000000<((at' l t25.toNat).amps))))then true else r_1)then
 some (.done (.ret (([]:List Int),false,1)))
 else
 Option.bind (aD (iF l out0 t25) FUEL (out0,0)) fun o=>match o with
 | .ret v=>some v
 | .brk out03=>
 some (.next (out03,(IntKind.wrap .i64 (t25+1)))))
 else
 some (.done (.brk out0))
def kr (p:ai) (l:(List Short)):Option ((List Int) × Bool × Int):=
 (lH p).bind fun r_=>
 bif (!decide (r_=0))then
 some (([]:List Int),false,r_)
 else
 bif (decide (8<(l.length:Int)))then
 some (([]:List Int),false,1)
 else
 bX (((0:Int)≤(p.links.length:Int))∧((8:Int)*(p.links.length:Int)≤281474976710656)∧(((p.links.length:Int):Int)≤9223372036854775807)) (
 Option.bind (aD (eH l) FUEL ((List.replicate ((p.links.length:Int).toNat) (0:Int)),0)) fun o=>match o with
 | .ret v=>some v
 | .brk out01=>
 some (out01,true,0))
def fG (r_:((List Short) × Int)):(Int × Int)→Option (aS (Int × Int) (Ex Int (Machine × Bool))):=
 fun zz=>match zz with
 |(o17,t41)=>
 bif (decide (t41<(r_.1.length:Int)))then
 bX ((0:Int)≤t41∧t41<(r_.1.length:Int)) (
 some (.next ((IntKind.wrap .i64 (o17+((at' r_.1 t41.toNat).amps))),(IntKind.wrap .i64 (t41+1)))))
 else
 some (.done (.brk o17))
def dS (machine:Machine) (machine_nn:Bool) (r_1:((List Int) × Bool × Int)):((List (Int × Int)) × Int)→Option (aS ((List (Int × Int)) × Int) (Ex (List (Int × Int)) (Machine × Bool))):=
 fun zz=>match zz with
 |(o18,t57)=>
 bif (decide (t57<(r_1.1.length:Int)))then
 bX ((0:Int)≤t57∧t57<(r_1.1.length:Int)) (
 bX (gB [((!machine_nn),false)]=true→(0:Int)≤t57∧t57<(machine.amps.length:Int)) (
 bif (bif (!machine_nn)then true else(!decide ((at' machine.amps t57.toNat)=(at' r_1.1 t57.toNat))))then
 some (.next ((jI iK t57 machine.now o18),(IntKind.wrap .i64 (t57+1))))
 else
 some (.next (o18,(IntKind.wrap .i64 (t57+1))))))
 else
 some (.done (.brk o18))
def cZ (machine:Machine) (machine_nn:Bool):Option (Machine × Bool):=
 (ol machine.p machine.clearing.state machine.bus).bind fun r_=>
 (kr machine.p r_.1).bind fun r_1=>
 Option.bind (aD (fG r_) FUEL (0,0)) fun o=>match o with
 | .ret v=>some v
 | .brk o171=>
 Option.bind (aD (dS machine machine_nn r_1) FUEL (machine.since,0)) fun o=>match o with
 | .ret v=>some v
 | .brk o181=>
 some ((⟨machine.clearing,machine.p,machine.bus,r_1.1,o171,o181,machine.now⟩:Machine),r_1.2.1)
def gG (machine:Machine) (machine_nn:Bool):Option Unit:=
 some ()
def dI (x:Link) (amps:Int):Int→Option (aS Int (Ex Unit (Int × Bool))):=
 fun i=>
 bif (decide (0≤i))then
 bX ((0:Int)≤i∧i<(x.trip.length:Int)) (
 bif (decide (((at' x.trip i.toNat).amps)≤amps))then
 bX ((0:Int)≤i∧i<(x.trip.length:Int)) (
 some (.done (.ret ((at' x.trip i.toNat).millis,true))))
 else
 some (.next (IntKind.wrap .i64 (i - 1))))
 else
 some (.done (.brk ()))
def iW (x:Link) (amps:Int):Option (Int × Bool):=
 Option.bind (aD (dI x amps) FUEL (IntKind.wrap .i64 ((x.trip.length:Int) - 1))) fun o=>match o with
 | .ret v=>some v
 | .brk _=>
 some (0,false)
def dV (x13:Int) (x14:Int) (int:Int):Option Int:=
 bif (bif (decide (int<0))then true else(decide (x14<int)))then
 some x14
 else
 some int
def dW (machine:Machine):(Int × Int)→Option (aS (Int × Int) (Ex Int Int)):=
 fun zz=>match zz with
 |(o30,t13)=>
 bif (decide (t13<(machine.p.links.length:Int)))then
 bX ((0:Int)≤t13∧t13<(machine.p.links.length:Int)) (
 bX ((gB [((!decide (((at' machine.p.links t13.toNat).kind)=3)),false)]=true→(0:Int)≤t13∧t13<(machine.clearing.state.closed.length:Int))∧(gB [((bif (!decide (((at' machine.p.links t13.toNat).kind)=3))then true else(!(at' machine.clearing.state.closed t13.toNat))),false)]=true→(0:Int)≤t13∧t13<(machine.clearing.state.badLink.length:Int))) (
 bif (bif (bif (!decide (((at' machine.p.links t13.toNat).kind)=3))then true else(!(at' machine.clearing.state.closed t13.toNat)))then true else(at' machine.clearing.state.badLink t13.toNat))then
 some (.next (o30,(IntKind.wrap .i64 (t13+1))))
 else
 (iW (at' machine.p.links t13.toNat) (at' machine.amps t13.toNat)).bind fun r_=>
 bX ((0:Int)≤t13∧t13<(machine.amps.length:Int)) (
 bif r_.2 then
 (dV t13 (IntKind.wrap .i64 (((dh iK t13 machine.since).getD 0)+r_.1)) o30).bind fun r_1=>
 bif (!true)then
 some (.done (.ret r_1))
 else
 some (.next (r_1,(IntKind.wrap .i64 (t13+1))))
 else
 some (.next (o30,(IntKind.wrap .i64 (t13+1)))))))
 else
 some (.done (.brk o30))
def fE (int:Int) (machine:Machine) (machine_nn:Bool):Option Int:=
 Option.bind (aD (dW machine) FUEL (int,0)) fun o=>match o with
 | .ret v=>some v
 | .brk o301=>
 some o301
def eu (x33:Int) (x34:Int) (int:Int) (o_:(List Int)):Option (List Int):=
 bif (decide (x34≤int))then
 bX (((o_.length+[x33].length)*8≤140737488355328)∧(o_.length+[x33].length≤4611686018427387904)) (
 some (o_++[x33]))
 else
 some o_
def dm (int:Int) (machine:Machine):((List Int) × Int)→Option (aS ((List Int) × Int) (Ex (List Int) (List Int))):=
 fun zz=>match zz with
 |(o60,t13)=>
 bif (decide (t13<(machine.p.links.length:Int)))then
 bX ((0:Int)≤t13∧t13<(machine.p.links.length:Int)) (
 bX ((gB [((!decide (((at' machine.p.links t13.toNat).kind)=3)),false)]=true→(0:Int)≤t13∧t13<(machine.clearing.state.closed.length:Int))∧(gB [((bif (!decide (((at' machine.p.links t13.toNat).kind)=3))then true else(!(at' machine.clearing.state.closed t13.toNat))),false)]=true→(0:Int)≤t13∧t13<(machine.clearing.state.badLink.length:Int))) (
 bif (bif (bif (!decide (((at' machine.p.links t13.toNat).kind)=3))then true else(!(at' machine.clearing.state.closed t13.toNat)))then true else(at' machine.clearing.state.badLink t13.toNat))then
 some (.next (o60,(IntKind.wrap .i64 (t13+1))))
 else
 (iW (at' machine.p.links t13.toNat) (at' machine.amps t13.toNat)).bind fun r_=>
 bX ((0:Int)≤t13∧t13<(machine.amps.length:Int)) (
 bif r_.2 then
 (eu t13 (IntKind.wrap .i64 (((dh iK t13 machine.since).getD 0)+r_.1)) int o60).bind fun r_1=>
 bif (!true)then
 some (.done (.ret r_1))
 else
 some (.next (r_1,(IntKind.wrap .i64 (t13+1))))
 else
 some (.next (o60,(IntKind.wrap .i64 (t13+1)))))))
 else
 some (.done (.brk o60))
def dZ (int:Int) (o_:(List Int)) (machine:Machine) (machine_nn:Bool):Option (List Int):=
 Option.bind (aD (dm int machine) FUEL (o_,0)) fun o=>match o with
 | .ret v=>some v
 | .brk o601=>
 some o601
def dJ (machine:Machine) (r_1:Int) (r_3:(List Int)):((List Event) × (List Bool) × Int)→Option (aS ((List Event) × (List Bool) × Int) (Ex ((List Event) × (List Bool)) (Bool × Machine × Bool))):=
 fun zz=>match zz with
 |(o0,o4,t92)=>
 bif (decide (t92<(r_3.length:Int)))then
 bX ((0:Int)≤t92∧t92<(r_3.length:Int)) (
 bX ((0:Int)≤(at' r_3 t92.toNat)∧(at' r_3 t92.toNat)<(o4.length:Int)) (
 bX (((o0.length+[(⟨(if r_1<machine.now then machine.now else r_1),(at' r_3 t92.toNat)⟩:Event)].length)*16≤140737488355328)∧(o0.length+[(⟨(if r_1<machine.now then machine.now else r_1),(at' r_3 t92.toNat)⟩:Event)].length≤4611686018427387904)) (
 some (.next ((o0++[(⟨(if r_1<machine.now then machine.now else r_1),(at' r_3 t92.toNat)⟩:Event)]),(o4.set ((at' r_3 t92.toNat).toNat) false),(IntKind.wrap .i64 (t92+1)))))))
 else
 some (.done (.brk (o0,o4)))
def dO (machine:Machine) (machine_nn:Bool):Option (Bool × Machine × Bool):=
 (gG machine machine_nn).bind fun r_=>
 (fE (-1) machine machine_nn).bind fun r_1=>
 bif (decide (r_1<0))then
 some (false,machine,machine_nn)
 else
 (gG machine machine_nn).bind fun r_2=>
 (dZ (if r_1<machine.now then machine.now else r_1) ([]:List Int) machine machine_nn).bind fun r_3=>
 bX (1000≠(0:Int)) (
 (bA machine.clearing.state.closed).bind fun r_4=>
 Option.bind (aD (dJ machine r_1 r_3) FUEL (machine.clearing.events,r_4,0)) fun o=>match o with
 | .ret v=>some v
 | .brk (o01,o41)=>
 some (true,(⟨(⟨o01,machine.clearing.cleared,(if r_1<machine.now then machine.now else r_1),(IntKind.wrap .i64 (machine.clearing.energy+(IntKind.wrap .i64 ((IntKind.wrap .i64 (Int.tdiv (IntKind.wrap .i64 ((IntKind.wrap .i64 (machine.total*machine.total))+999)) 1000))*(IntKind.wrap .i64 ((if r_1<machine.now then machine.now else r_1) - machine.now)))))),(⟨o41,machine.clearing.state.locked,machine.clearing.state.badLink,machine.clearing.state.on_,machine.clearing.state.badSource,machine.clearing.state.earthed,machine.clearing.state.badBus⟩:State)⟩:aj),machine.p,machine.bus,machine.amps,machine.total,machine.since,(if r_1<machine.now then machine.now else r_1)⟩:Machine),machine_nn))
def dD (machine:Machine):((List Event) × Bool × Int × Int × (List Bool) × Int × (List Source) × (List Link) × (List aJ) × Int × Bool × (List Int) × Int × (List (Int × Int)) × Int)→Option (aS ((List Event) × Bool × Int × Int × (List Bool) × Int × (List Source) × (List Link) × (List aJ) × Int × Bool × (List Int) × Int × (List (Int × Int)) × Int) (Ex Unit (aj × (List (Int × Int))))):=
 fun zz=>match zz with
 |(o0,o1,o2,o3,o4,o11,o12,o13,o14,o15,o16_nn,o16,o17,o18,o19)=>
 (cZ (⟨(⟨o0,o1,o2,o3,(⟨o4,machine.clearing.state.locked,machine.clearing.state.badLink,machine.clearing.state.on_,machine.clearing.state.badSource,machine.clearing.state.earthed,machine.clearing.state.badBus⟩:State)⟩:aj),(⟨o11,o12,o13,o14⟩:ai),o15,o16,o17,o18,o19⟩:Machine) o16_nn).bind fun r_=>
 bif (decide (r_.1.total=0))then
 some (.done (.ret ((⟨o0,true,r_.1.clearing.millis,r_.1.clearing.energy,(⟨o4,machine.clearing.state.locked,machine.clearing.state.badLink,machine.clearing.state.on_,machine.clearing.state.badSource,machine.clearing.state.earthed,machine.clearing.state.badBus⟩:State)⟩:aj),r_.1.since)))
 else
 (dO (⟨(⟨o0,r_.1.clearing.cleared,r_.1.clearing.millis,r_.1.clearing.energy,(⟨o4,machine.clearing.state.locked,machine.clearing.state.badLink,machine.clearing.state.on_,machine.clearing.state.badSource,machine.clearing.state.earthed,machine.clearing.state.badBus⟩:State)⟩:aj),r_.1.p,r_.1.bus,r_.1.amps,r_.1.total,r_.1.since,r_.1.now⟩:Machine) r_.2).bind fun r_1=>
 bif r_1.1 then
 some (.next (r_1.2.1.clearing.events,r_1.2.1.clearing.cleared,r_1.2.1.clearing.millis,r_1.2.1.clearing.energy,r_1.2.1.clearing.state.closed,r_1.2.1.p.buses,r_1.2.1.p.sources,r_1.2.1.p.links,r_1.2.1.p.racks,r_1.2.1.bus,r_1.2.2,r_1.2.1.amps,r_1.2.1.total,r_.1.since,r_1.2.1.now))
 else
 some (.done (.ret ((⟨r_1.2.1.clearing.events,r_1.2.1.clearing.cleared,r_1.2.1.clearing.millis,r_1.2.1.clearing.energy,(⟨r_1.2.1.clearing.state.closed,machine.clearing.state.locked,machine.clearing.state.badLink,machine.clearing.state.on_,machine.clearing.state.badSource,machine.clearing.state.earthed,machine.clearing.state.badBus⟩:State)⟩:aj),r_.1.since)))
def iL (machine:Machine) (machine_nn:Bool):Option (aj × (List (Int × Int))):=
 Option.bind (aD (dD machine) FUEL (machine.clearing.events,machine.clearing.cleared,machine.clearing.millis,machine.clearing.energy,machine.clearing.state.closed,machine.p.buses,machine.p.sources,machine.p.links,machine.p.racks,machine.bus,machine_nn,machine.amps,machine.total,machine.since,machine.now)) fun o=>match o with
 | .ret v=>some v
 | .brk _=>none
def eY (p:ai) (s_:State) (bus:Int):Option (aj × Int):=
 (dG p s_).bind fun r_=>
 bif (!decide (r_=0))then
 some ((⟨([]:List Event),false,0,0,(⟨([]:List Bool),([]:List Bool),([]:List Bool),([]:List Bool),([]:List Bool),([]:List Bool),([]:List Bool)⟩:State)⟩:aj),r_)
 else
 bif (bif (decide (bus<0))then true else(decide (p.buses≤bus)))then
 some ((⟨([]:List Event),false,0,0,(⟨([]:List Bool),([]:List Bool),([]:List Bool),([]:List Bool),([]:List Bool),([]:List Bool),([]:List Bool)⟩:State)⟩:aj),1)
 else
 (mK s_).bind fun r_1=>
 (iL (⟨(⟨([]:List Event),false,0,0,r_1⟩:aj),p,bus,([]:List Int),0,([]:(List (Int × Int))),0⟩:Machine) false).bind fun r_2=>
 some (r_2.1,0)
def xJ (a:(List Int)) (b:(List Int)):Int→Option (aS Int (Ex Unit Bool)):=
 fun i=>
 bif (decide (i<(a.length:Int)))then
 bX (((0:Int)≤i∧i<(a.length:Int))∧((0:Int)≤i∧i<(b.length:Int))) (
 bif (!decide ((at' a i.toNat)=(at' b i.toNat)))then
 some (.done (.ret false))
 else
 some (.next (IntKind.wrap .i64 (i+1))))
 else
 some (.done (.brk ()))
def wh (a:(List Int)) (b:(List Int)):Option Bool:=
 bif (!decide ((a.length:Int)=(b.length:Int)))then
 some false
 else
 Option.bind (aD (xJ a b) FUEL (0)) fun o=>match o with
 | .ret v=>some v
 | .brk _=>
 some true
def sZ  :Option (ai × State):=
 bX (((0:Int)≤2)∧((1:Int)*2≤281474976710656)∧((2:Int)≤9223372036854775807)∧((0:Int)≤1)∧((1:Int)*1≤281474976710656)∧((1:Int)≤9223372036854775807)∧((0:Int)≤3)∧((1:Int)*3≤281474976710656)∧((3:Int)≤9223372036854775807)) (
 some ((⟨3,[(⟨0,1,500,0,20⟩:Source)],[(⟨0,1,3,400,10,[(⟨1000,400⟩:dU),(⟨10000,100⟩:dU)]⟩:Link),(⟨1,2,3,400,10,[(⟨1000,50⟩:dU)]⟩:Link)],[(⟨(⟨2,(-1)⟩:bB),100,1⟩:aJ),(⟨(⟨1,2⟩:bB),100,0⟩:aJ)]⟩:ai),(⟨[true,true],(List.replicate 2 (false:Bool)),(List.replicate 2 (false:Bool)),[true],(List.replicate 1 (false:Bool)),(List.replicate 3 (false:Bool)),(List.replicate 3 (false:Bool))⟩:State)))
def Ak (p:ai) (i:Int) (bus:Int):Option Bool:=
 bX (((0:Int)≤i∧i<(p.links.length:Int))∧(gB [((decide (((at' p.links i.toNat).a)=bus)),false)]=true→(0:Int)≤i∧i<(p.links.length:Int))) (
 some (bif (decide (((at' p.links i.toNat).a)=bus))then true else(decide (((at' p.links i.toNat).b)=bus))))
def nJ (x:Event) (x1:Int) (x11:(List Source)) (x12:(List Link)) (x13:(List aJ)) (x2:Int):Option Bool:=
 (Ak (⟨x1,x11,x12,x13⟩:ai) x.link x2).bind fun r_=>
 some (!r_)
def ow (s_:(List Event)) (f_:Int) (f_1:(List Source)) (f_2:(List Link)) (f_3:(List aJ)) (f_4:Int):Int→Option (aS Int (Ex Unit Int)):=
 fun t8=>
 bif (decide (t8<(s_.length:Int)))then
 (nJ (at' s_ t8.toNat) f_ f_1 f_2 f_3 f_4).bind fun r_=>
 bX ((0:Int)≤t8∧t8<(s_.length:Int)) (
 bif r_ then
 some (.done (.ret t8))
 else
 some (.next (IntKind.wrap .i64 (t8+1))))
 else
 some (.done (.brk ()))
def lU (s_:(List Event)) (f_:Int) (f_1:(List Source)) (f_2:(List Link)) (f_3:(List aJ)) (f_4:Int):Option Int:=
 Option.bind (aD (ow s_ f_ f_1 f_2 f_3 f_4) FUEL (0)) fun o=>match o with
 | .ret v=>some v
 | .brk _=>
 some (-1)
def jS (s_:(List Event)) (f_:Int) (f_1:(List Source)) (f_2:(List Link)) (f_3:(List aJ)) (f_4:Int):Option Bool:=
 (lU s_ f_ f_1 f_2 f_3 f_4).bind fun r_=>
 some (decide (0≤r_))
def lX (p:ai) (s_:State) (bus:Int):Option (Bool × Int):=
 (eY p s_ bus).bind fun r_=>
 bif (!decide (r_.2=0))then
 some (false,r_.2)
 else
 (bif gB [(r_.1.cleared,true)]then jS r_.1.events p.buses p.sources p.links p.racks bus else some default).bind fun r_1=>
 some ((bif r_.1.cleared then(!r_1)else false),0)
def vg (s_:State):Option State:=
 bX ((0:Int)≤0∧0<(7:Int)) (
 (bA s_.closed).bind fun r_=>
 bX ((0:Int)≤1∧1<(7:Int)) (
 (bA s_.locked).bind fun r_1=>
 bX ((0:Int)≤2∧2<(7:Int)) (
 (bA s_.badLink).bind fun r_2=>
 bX ((0:Int)≤3∧3<(7:Int)) (
 (bA s_.on_).bind fun r_3=>
 bX ((0:Int)≤4∧4<(7:Int)) (
 (bA s_.badSource).bind fun r_4=>
 bX ((0:Int)≤5∧5<(7:Int)) (
 (bA s_.earthed).bind fun r_5=>
 bX ((0:Int)≤6∧6<(7:Int)) (
 (bA s_.badBus).bind fun r_6=>
 some (⟨r_,r_1,r_2,r_3,r_4,r_5,r_6⟩:State))))))))
def uR (p:ai) (s_:State) (x:Part) (is:Bool):Option (State × Int):=
 (dG p s_).bind fun r_=>
 bif (!decide (r_=0))then
 some ((⟨([]:List Bool),([]:List Bool),([]:List Bool),([]:List Bool),([]:List Bool),([]:List Bool),([]:List Bool)⟩:State),r_)
 else
 (vg s_).bind fun r_1=>
 bif (iK x.kind 1)then
 (aV x.index 0 (IntKind.wrap .i64 ((r_1.badBus.length:Int) - 1))).bind fun r_2=>
 bif (!r_2)then
 some ((⟨([]:List Bool),([]:List Bool),([]:List Bool),([]:List Bool),([]:List Bool),([]:List Bool),([]:List Bool)⟩:State),14)
 else
 bX ((0:Int)≤x.index∧x.index<(r_1.badBus.length:Int)) (
 some ((⟨r_1.closed,r_1.locked,r_1.badLink,r_1.on_,r_1.badSource,r_1.earthed,(r_1.badBus.set x.index.toNat is)⟩:State),0))
 else
 bif (iK x.kind 2)then
 (aV x.index 0 (IntKind.wrap .i64 ((r_1.badSource.length:Int) - 1))).bind fun r_3=>
 bif (!r_3)then
 some ((⟨([]:List Bool),([]:List Bool),([]:List Bool),([]:List Bool),([]:List Bool),([]:List Bool),([]:List Bool)⟩:State),14)
 else
 bX ((0:Int)≤x.index∧x.index<(r_1.badSource.length:Int)) (
 some ((⟨r_1.closed,r_1.locked,r_1.badLink,r_1.on_,(r_1.badSource.set x.index.toNat is),r_1.earthed,r_1.badBus⟩:State),0))
 else
 bif (iK x.kind 3)then
 (aV x.index 0 (IntKind.wrap .i64 ((r_1.badLink.length:Int) - 1))).bind fun r_4=>
 bif (!r_4)then
 some ((⟨([]:List Bool),([]:List Bool),([]:List Bool),([]:List Bool),([]:List Bool),([]:List Bool),([]:List Bool)⟩:State),14)
 else
 bX ((0:Int)≤x.index∧x.index<(r_1.badLink.length:Int)) (
 some ((⟨r_1.closed,r_1.locked,(r_1.badLink.set x.index.toNat is),r_1.on_,r_1.badSource,r_1.earthed,r_1.badBus⟩:State),0))
 else
 (aV x.index 0 (-1)).bind fun r_5=>
 bif (!r_5)then
 some ((⟨([]:List Bool),([]:List Bool),([]:List Bool),([]:List Bool),([]:List Bool),([]:List Bool),([]:List Bool)⟩:State),14)
 else
 none
def xW (p:ai) (s_:State) (x:Part):Option (State × Int):=
 (uR p s_ x true).bind fun r_=>
 some (r_.1,r_.2)
def oD (p:ai) (s_:State):Option (Int × (List Source) × (List Link) × (List aJ) × (List Bool) × (List Bool) × (List Bool) × (List Bool) × (List Bool) × (List Bool) × (List Bool)):=
 some (p.buses,p.sources,p.links,p.racks,s_.closed,s_.locked,s_.badLink,s_.on_,s_.badSource,s_.earthed,s_.badBus)
def o7 (g:aF):Int→Option (aS Int (Ex Unit Int)):=
 fun x1=>
 bif (!((dh iK x1 g.head).isSome))then
 some (.done (.ret x1))
 else
 some (.next ((dh iK x1 g.head).getD 0))
def fH (g:aF) (x:Int):Option Int:=
 Option.bind (aD (o7 g) FUEL (x)) fun o=>match o with
 | .ret v=>some v
 | .brk _=>none
def nK (g:aF) (a:Int) (b:Int):Option (List (Int × Int)):=
 (fH g a).bind fun r_=>
 (fH g b).bind fun r_1=>
 bif (!decide (r_=r_1))then
 some (jI iK r_ r_1 g.head)
 else
 some g.head
def mO (x22:Int) (x221:Int) (x222:Int) (x223:Int) (x224:Int) (x225:(List dU)) (o_:aF):Option aF:=
 (nK o_ x22 x221).bind fun r_=>
 some (⟨r_⟩:aF)
def o8 (x12:(List Link)) (x2:(List Bool)) (x22:(List Bool)) (x26:(List Bool)):((List (Int × Int)) × Int)→Option (aS ((List (Int × Int)) × Int) (Ex (List (Int × Int)) aF)):=
 fun zz=>match zz with
 |(o50,t9)=>
 bif (decide (t9<(x12.length:Int)))then
 bX ((0:Int)≤t9∧t9<(x12.length:Int)) (
 bif (bif (bif (bif (at' x2 t9.toNat)then(!(at' x22 t9.toNat))else false)then(!(at' x26 (((at' x12 t9.toNat).a).toNat)))else false)then(!(at' x26 (((at' x12 t9.toNat).b).toNat)))else false)then
 (mO ((at' x12 t9.toNat).a) ((at' x12 t9.toNat).b) ((at' x12 t9.toNat).kind) ((at' x12 t9.toNat).most) ((at' x12 t9.toNat).bK) ((at' x12 t9.toNat).trip) (⟨o50⟩:aF)).bind fun r_=>
 bX (((0:Int)≤t9∧t9<(x2.length:Int))∧(gB [((at' x2 t9.toNat),true)]=true→(0:Int)≤t9∧t9<(x22.length:Int))∧(gB [((bif (at' x2 t9.toNat)then(!(at' x22 t9.toNat))else false),true)]=true→(0:Int)≤(at' x12 t9.toNat).a∧(at' x12 t9.toNat).a<(x26.length:Int))∧(gB [((bif (bif (at' x2 t9.toNat)then(!(at' x22 t9.toNat))else false)then(!(at' x26 (((at' x12 t9.toNat).a).toNat)))else false),true)]=true→(0:Int)≤(at' x12 t9.toNat).b∧(at' x12 t9.toNat).b<(x26.length:Int))) (
 bif (!true)then
 some (.done (.ret r_))
 else
 some (.next (r_.head,(IntKind.wrap .i64 (t9+1)))))
 else
 bX (((0:Int)≤t9∧t9<(x2.length:Int))∧(gB [((at' x2 t9.toNat),true)]=true→(0:Int)≤t9∧t9<(x22.length:Int))∧(gB [((bif (at' x2 t9.toNat)then(!(at' x22 t9.toNat))else false),true)]=true→(0:Int)≤(at' x12 t9.toNat).a∧(at' x12 t9.toNat).a<(x26.length:Int))∧(gB [((bif (bif (at' x2 t9.toNat)then(!(at' x22 t9.toNat))else false)then(!(at' x26 (((at' x12 t9.toNat).a).toNat)))else false),true)]=true→(0:Int)≤(at' x12 t9.toNat).b∧(at' x12 t9.toNat).b<(x26.length:Int))) (
 some (.next (o50,(IntKind.wrap .i64 (t9+1))))))
 else
 some (.done (.brk o50))
def mM (x1:Int) (x11:(List Source)) (x12:(List Link)) (x13:(List aJ)) (x2:(List Bool)) (x21:(List Bool)) (x22:(List Bool)) (x23:(List Bool)) (x24:(List Bool)) (x25:(List Bool)) (x26:(List Bool)) (o_:aF):Option aF:=
 Option.bind (aD (o8 x12 x2 x22 x26) FUEL (o_.head,0)) fun o=>match o with
 | .ret v=>some v
 | .brk o501=>
 some (⟨o501⟩:aF)
def vS (p:ai) (s_:State) (r_1:aF):((List aM) × (List (Int × Int)) × Int)→Option (aS ((List aM) × (List (Int × Int)) × Int) (Ex ((List aM) × (List (Int × Int))) (List aM))):=
 fun zz=>match zz with
 |(out,at_,t32)=>
 bif (decide (t32<p.buses))then
 bX ((0:Int)≤t32∧t32<(s_.badBus.length:Int)) (
 bif (at' s_.badBus t32.toNat)then
 some (.next (out,at_,(IntKind.wrap .i64 (t32+1))))
 else
 (fH r_1 t32).bind fun r_2=>
 bif (!((dh iK r_2 at_).isSome))then
 bX (((out.length+[(⟨([]:List Int),([]:List Int)⟩:aM)].length)*48≤140737488355328)∧(out.length+[(⟨([]:List Int),([]:List Int)⟩:aM)].length≤4611686018427387904)) (
 bX (((0:Int)≤((dh iK r_2 (jI iK r_2 (out.length:Int) at_)).getD 0)∧((dh iK r_2 (jI iK r_2 (out.length:Int) at_)).getD 0)<((out++[(⟨([]:List Int),([]:List Int)⟩:aM)]).length:Int))∧((((at' (out++[(⟨([]:List Int),([]:List Int)⟩:aM)]) (((dh iK r_2 (jI iK r_2 (out.length:Int) at_)).getD 0).toNat)).buses).length+[t32].length)*8≤140737488355328)∧(((at' (out++[(⟨([]:List Int),([]:List Int)⟩:aM)]) (((dh iK r_2 (jI iK r_2 (out.length:Int) at_)).getD 0).toNat)).buses).length+[t32].length≤4611686018427387904)) (
 some (.next (((out++[(⟨([]:List Int),([]:List Int)⟩:aM)]).set (((dh iK r_2 (jI iK r_2 (out.length:Int) at_)).getD 0).toNat) (⟨(((at' (out++[(⟨([]:List Int),([]:List Int)⟩:aM)]) (((dh iK r_2 (jI iK r_2 (out.length:Int) at_)).getD 0).toNat)).buses)++[t32]),(at' (out++[(⟨([]:List Int),([]:List Int)⟩:aM)]) (((dh iK r_2 (jI iK r_2 (out.length:Int) at_)).getD 0).toNat)).sources⟩:aM)),(jI iK r_2 (out.length:Int) at_),(IntKind.wrap .i64 (t32+1))))))
 else
 bX (((0:Int)≤((dh iK r_2 at_).getD 0)∧((dh iK r_2 at_).getD 0)<(out.length:Int))∧((((at' out (((dh iK r_2 at_).getD 0).toNat)).buses).length+[t32].length)*8≤140737488355328)∧(((at' out (((dh iK r_2 at_).getD 0).toNat)).buses).length+[t32].length≤4611686018427387904)) (
 some (.next ((out.set (((dh iK r_2 at_).getD 0).toNat) (⟨(((at' out (((dh iK r_2 at_).getD 0).toNat)).buses)++[t32]),(at' out (((dh iK r_2 at_).getD 0).toNat)).sources⟩:aM)),at_,(IntKind.wrap .i64 (t32+1))))))
 else
 some (.done (.brk (out,at_)))
def vw (p:ai) (s_:State) (r_1:aF) (at_1:(List (Int × Int))):((List aM) × Int)→Option (aS ((List aM) × Int) (Ex (List aM) (List aM))):=
 fun zz=>match zz with
 |(out2,t78)=>
 bif (decide (t78<(p.sources.length:Int)))then
 bX ((0:Int)≤t78∧t78<(p.sources.length:Int)) (
 bX (((0:Int)≤t78∧t78<(s_.on_.length:Int))∧(gB [((at' s_.on_ t78.toNat),true)]=true→(0:Int)≤t78∧t78<(s_.badSource.length:Int))∧(gB [((bif (at' s_.on_ t78.toNat)then(!(at' s_.badSource t78.toNat))else false),true)]=true→(0:Int)≤(at' p.sources t78.toNat).bus∧(at' p.sources t78.toNat).bus<(s_.badBus.length:Int))) (
 bif (bif (bif (at' s_.on_ t78.toNat)then(!(at' s_.badSource t78.toNat))else false)then(!(at' s_.badBus (((at' p.sources t78.toNat).bus).toNat)))else false)then
 (fH r_1 ((at' p.sources t78.toNat).bus)).bind fun r_3=>
 bX (((0:Int)≤((dh iK r_3 at_1).getD 0)∧((dh iK r_3 at_1).getD 0)<(out2.length:Int))∧((((at' out2 (((dh iK r_3 at_1).getD 0).toNat)).sources).length+[t78].length)*8≤140737488355328)∧(((at' out2 (((dh iK r_3 at_1).getD 0).toNat)).sources).length+[t78].length≤4611686018427387904)) (
 some (.next ((out2.set (((dh iK r_3 at_1).getD 0).toNat) (⟨(at' out2 (((dh iK r_3 at_1).getD 0).toNat)).buses,(((at' out2 (((dh iK r_3 at_1).getD 0).toNat)).sources)++[t78])⟩:aM)),(IntKind.wrap .i64 (t78+1)))))
 else
 some (.next (out2,(IntKind.wrap .i64 (t78+1))))))
 else
 some (.done (.brk out2))
def tJ (p:ai) (s_:State):Option (List aM):=
 (oD p s_).bind fun r_=>
 (mM r_.1 r_.2.1 r_.2.2.1 r_.2.2.2.1 r_.2.2.2.2.1 r_.2.2.2.2.2.1 r_.2.2.2.2.2.2.1 r_.2.2.2.2.2.2.2.1 r_.2.2.2.2.2.2.2.2.1 r_.2.2.2.2.2.2.2.2.2.1 r_.2.2.2.2.2.2.2.2.2.2 (⟨([]:(List (Int × Int)))⟩:aF)).bind fun r_1=>
 Option.bind (aD (vS p s_ r_1) FUEL (([]:List aM),([]:(List (Int × Int))),0)) fun o=>match o with
 | .ret v=>some v
 | .brk (out1,at_1)=>
 Option.bind (aD (vw p s_ r_1 at_1) FUEL (out1,0)) fun o=>match o with
 | .ret v=>some v
 | .brk out3=>
 some out3
def Ao (r_1:(List aM)) (t25:Int):((List Bool) × Int)→Option (aS ((List Bool) × Int) (Ex (List Bool) (aS ((List Bool) × Int) (Ex (List Bool) ((List Bool) × Int))))):=
 fun zz=>match zz with
 |(out2,t32)=>
 bif (decide (t32<(((at' r_1 t25.toNat).buses).length:Int)))then
 bX ((0:Int)≤t32∧t32<(((at' r_1 t25.toNat).buses).length:Int)) (
 bX ((0:Int)≤(at' ((at' r_1 t25.toNat).buses) t32.toNat)∧(at' ((at' r_1 t25.toNat).buses) t32.toNat)<(out2.length:Int)) (
 some (.next ((out2.set ((at' ((at' r_1 t25.toNat).buses) t32.toNat).toNat) (decide (0<(((at' r_1 t25.toNat).sources).length:Int)))),(IntKind.wrap .i64 (t32+1))))))
 else
 some (.done (.brk out2))
def AL (r_1:(List aM)):((List Bool) × Int)→Option (aS ((List Bool) × Int) (Ex (List Bool) ((List Bool) × Int))):=
 fun zz=>match zz with
 |(out,t25)=>
 bif (decide (t25<(r_1.length:Int)))then
 bX ((0:Int)≤t25∧t25<(r_1.length:Int)) (
 Option.bind (aD (Ao r_1 t25) FUEL (out,0)) fun o=>match o with
 | .ret v=>some v
 | .brk out3=>
 some (.next (out3,(IntKind.wrap .i64 (t25+1)))))
 else
 some (.done (.brk out))
def zS (p:ai) (s_:State):Option ((List Bool) × Int):=
 (dG p s_).bind fun r_=>
 bif (!decide (r_=0))then
 some (([]:List Bool),r_)
 else
 bX (((0:Int)≤p.buses)∧((1:Int)*p.buses≤281474976710656)∧((p.buses:Int)≤9223372036854775807)) (
 (tJ p s_).bind fun r_1=>
 Option.bind (aD (AL r_1) FUEL ((List.replicate p.buses.toNat (false:Bool)),0)) fun o=>match o with
 | .ret v=>some v
 | .brk out1=>
 some (out1,0))
def BD (p:ai) (r_:((List Bool) × Int)):((List aN) × Int)→Option (aS ((List aN) × Int) (Ex (List aN) ((List aN) × Int))):=
 fun zz=>match zz with
 |(out,t26)=>
 bif (decide (t26<(p.racks.length:Int)))then
 bX ((0:Int)≤t26∧t26<(p.racks.length:Int)) (
 bX (gB [((decide (0≤(((at' p.racks t26.toNat).feeds).e0))),true)]=true→(0:Int)≤((at' p.racks t26.toNat).feeds).e0∧((at' p.racks t26.toNat).feeds).e0<(r_.1.length:Int)) (
 bX (gB [((decide (0≤(((at' p.racks t26.toNat).feeds).e1))),true)]=true→(0:Int)≤((at' p.racks t26.toNat).feeds).e1∧((at' p.racks t26.toNat).feeds).e1<(r_.1.length:Int)) (
 bX (((out.length+[(⟨(bif (decide (0≤(((at' p.racks t26.toNat).feeds).e0)))then(at' r_.1 ((((at' p.racks t26.toNat).feeds).e0).toNat))else false),(bif (decide (0≤(((at' p.racks t26.toNat).feeds).e1)))then(at' r_.1 ((((at' p.racks t26.toNat).feeds).e1).toNat))else false)⟩:aN)].length)*2≤140737488355328)∧(out.length+[(⟨(bif (decide (0≤(((at' p.racks t26.toNat).feeds).e0)))then(at' r_.1 ((((at' p.racks t26.toNat).feeds).e0).toNat))else false),(bif (decide (0≤(((at' p.racks t26.toNat).feeds).e1)))then(at' r_.1 ((((at' p.racks t26.toNat).feeds).e1).toNat))else false)⟩:aN)].length≤4611686018427387904)) (
 some (.next ((out++[(⟨(bif (decide (0≤(((at' p.racks t26.toNat).feeds).e0)))then(at' r_.1 ((((at' p.racks t26.toNat).feeds).e0).toNat))else false),(bif (decide (0≤(((at' p.racks t26.toNat).feeds).e1)))then(at' r_.1 ((((at' p.racks t26.toNat).feeds).e1).toNat))else false)⟩:aN)]),(IntKind.wrap .i64 (t26+1))))))))
 else
 some (.done (.brk out))
def wM (p:ai) (s_:State):Option ((List aN) × Int):=
 (zS p s_).bind fun r_=>
 bif (!decide (r_.2=0))then
 some (([]:List aN),r_.2)
 else
 Option.bind (aD (BD p r_) FUEL (([]:List aN),0)) fun o=>match o with
 | .ret v=>some v
 | .brk out1=>
 some (out1,0)
def pV (x:aN):Option Bool:=
 some (bif x.e0 then true else x.e1)
def AJ (p:ai) (r_2:((List aN) × Int)) (r_3:((List aN) × Int)):((List Int) × Int)→Option (aS ((List Int) × Int) (Ex (List Int) ((List Int) × Int))):=
 fun zz=>match zz with
 |(out,t58)=>
 bif (decide (t58<(p.racks.length:Int)))then
 (pV (at' r_2.1 t58.toNat)).bind fun r_4=>
 (bif gB [(r_4,true)]then pV (at' r_3.1 t58.toNat)else some default).bind fun r_5=>
 bX (((0:Int)≤t58∧t58<(r_2.1.length:Int))∧(gB [(r_4,true)]=true→(0:Int)≤t58∧t58<(r_3.1.length:Int))) (
 bif (bif r_4 then(!r_5)else false)then
 bX (((out.length+[t58].length)*8≤140737488355328)∧(out.length+[t58].length≤4611686018427387904)) (
 some (.next ((out++[t58]),(IntKind.wrap .i64 (t58+1)))))
 else
 some (.next (out,(IntKind.wrap .i64 (t58+1)))))
 else
 some (.done (.brk out))
def Ai (p:ai) (s_:State) (bus:Int):Option ((List Int) × Int):=
 (eY p s_ bus).bind fun r_=>
 bif (!decide (r_.2=0))then
 some (([]:List Int),r_.2)
 else
 bif (!r_.1.cleared)then
 some (([]:List Int),4)
 else
 (xW p r_.1.state (⟨1,bus⟩:Part)).bind fun r_1=>
 (wM p s_).bind fun r_2=>
 (wM p r_1.1).bind fun r_3=>
 Option.bind (aD (AJ p r_2 r_3) FUEL (([]:List Int),0)) fun o=>match o with
 | .ret v=>some v
 | .brk out1=>
 some (out1,0)
def om  :Option Bool:=
 (sZ).bind fun r_=>
 (eY r_.1 r_.2 2).bind fun r_1=>
 (lX r_.1 r_.2 2).bind fun r_2=>
 (Ai r_.1 r_.2 2).bind fun r_3=>
 bif (bif (bif (bif (bif (bif (bif (bif (!decide (r_1.2=0))then true else(!decide (r_2.2=0)))then true else(!decide (r_3.2=0)))then true else(!r_2.1))then true else(!decide ((r_1.1.events.length:Int)=1)))then true else(!((decide (((at' r_1.1.events 0).millis)=50)) && ((decide (((at' r_1.1.events 0).link)=1)) && true))))then true else(!r_1.1.cleared))then true else(!decide (r_1.1.energy=5000000)))then
 bX (gB [((bif (bif (bif (bif (!decide (r_1.2=0))then true else(!decide (r_2.2=0)))then true else(!decide (r_3.2=0)))then true else(!r_2.1))then true else(!decide ((r_1.1.events.length:Int)=1))),false)]=true→(0:Int)≤0∧0<(r_1.1.events.length:Int)) (
 some false)
 else
 (wh r_3.1 [0]).bind fun r_4=>
 bX (gB [((bif (bif (bif (bif (!decide (r_1.2=0))then true else(!decide (r_2.2=0)))then true else(!decide (r_3.2=0)))then true else(!r_2.1))then true else(!decide ((r_1.1.events.length:Int)=1))),false)]=true→(0:Int)≤0∧0<(r_1.1.events.length:Int)) (
 bif (!r_4)then
 some false
 else
 bX ((0:Int)≤1∧1<(r_.1.links.length:Int)) (
 (eY (⟨r_.1.buses,r_.1.sources,(r_.1.links.set 1 (⟨(at' r_.1.links 1).a,(at' r_.1.links 1).b,(at' r_.1.links 1).kind,(at' r_.1.links 1).most,(at' r_.1.links 1).bK,([]:List dU)⟩:Link)),r_.1.racks⟩:ai) r_.2 2).bind fun r_5=>
 (lX (⟨r_.1.buses,r_.1.sources,(r_.1.links.set 1 (⟨(at' r_.1.links 1).a,(at' r_.1.links 1).b,(at' r_.1.links 1).kind,(at' r_.1.links 1).most,(at' r_.1.links 1).bK,([]:List dU)⟩:Link)),r_.1.racks⟩:ai) r_.2 2).bind fun r_6=>
 bX (gB [((bif (bif (bif (bif (decide (r_5.2=0))then(decide (r_6.2=0))else false)then(!r_6.1)else false)then r_5.1.cleared else false)then(decide ((r_5.1.events.length:Int)=1))else false),true)]=true→(0:Int)≤0∧0<(r_5.1.events.length:Int)) (
 some (bif (bif (bif (bif (bif (bif (decide (r_5.2=0))then(decide (r_6.2=0))else false)then(!r_6.1)else false)then r_5.1.cleared else false)then(decide ((r_5.1.events.length:Int)=1))else false)then((decide (((at' r_5.1.events 0).millis)=100)) && ((decide (((at' r_5.1.events 0).link)=0)) && true))else false)then(decide (r_5.1.millis=100))else false))))
def lD (x:Link):Int→Option (aS Int (Ex Unit Bool)):=
 fun i=>
 bif (decide (i<(x.trip.length:Int)))then
 bX ((0:Int)≤i∧i<(x.trip.length:Int)) (
 bif (bif (bif (bif (decide (((at' x.trip i.toNat).amps)<1))then true else(decide (1000000<((at' x.trip i.toNat).amps))))then true else(decide (((at' x.trip i.toNat).millis)<1)))then true else(decide (100000<((at' x.trip i.toNat).millis))))then
 some (.done (.ret false))
 else
 bX ((gB [((decide (0<i)),true)]=true→(0:Int)≤(IntKind.wrap .i64 (i - 1))∧(IntKind.wrap .i64 (i - 1))<(x.trip.length:Int))∧(gB [((decide (((at' x.trip i.toNat).amps)≤((at' x.trip ((IntKind.wrap .i64 (i - 1)).toNat)).amps))),false),((decide (0<i)),true)]=true→(0:Int)≤(IntKind.wrap .i64 (i - 1))∧(IntKind.wrap .i64 (i - 1))<(x.trip.length:Int))) (
 bif (bif (decide (0<i))then(bif (decide (((at' x.trip i.toNat).amps)≤((at' x.trip ((IntKind.wrap .i64 (i - 1)).toNat)).amps)))then true else(decide (((at' x.trip ((IntKind.wrap .i64 (i - 1)).toNat)).millis)≤((at' x.trip i.toNat).millis))))else false)then
 some (.done (.ret false))
 else
 some (.next (IntKind.wrap .i64 (i+1)))))
 else
 some (.done (.brk ()))
def pG (p:ai) (x:Link):Option Bool:=
 bif (bif (bif (bif (bif (bif (bif (bif (bif (bif (bif (decide (x.a<0))then true else(decide (p.buses≤x.a)))then true else(decide (x.b<0)))then true else(decide (p.buses≤x.b)))then true else(decide (x.a=x.b)))then true else(decide (x.kind<1)))then true else(decide (3<x.kind)))then true else(decide (x.most<1)))then true else(decide (100000<x.most)))then true else(decide (x.bK<10)))then true else(decide (100000<x.bK)))then
 some false
 else
 bif (bif (decide (6<(x.trip.length:Int)))then true else(bif (decide (0<(x.trip.length:Int)))then(!decide (x.kind=3))else false))then
 some false
 else
 Option.bind (aD (lD x) FUEL (0)) fun o=>match o with
 | .ret v=>some v
 | .brk _=>
 some true
def j5 (p:ai):Int→Option (aS Int (Ex Unit Int)):=
 fun i=>
 bif (decide (i<(p.sources.length:Int)))then
 bX ((0:Int)≤i∧i<(p.sources.length:Int)) (
 bif (bif (bif (bif (bif (bif (bif (bif (bif (bif (decide (((at' p.sources i.toNat).bus)<0))then true else(decide (p.buses≤((at' p.sources i.toNat).bus))))then true else(decide (((at' p.sources i.toNat).kind)<1)))then true else(decide (3<((at' p.sources i.toNat).kind))))then true else(decide (((at' p.sources i.toNat).power)<1)))then true else(decide (100000<((at' p.sources i.toNat).power))))then true else(decide (((at' p.sources i.toNat).sync)<0)))then true else(decide (8<((at' p.sources i.toNat).sync))))then true else(decide (((at' p.sources i.toNat).bK)<10)))then true else(decide (100000<((at' p.sources i.toNat).bK))))then
 some (.done (.ret 11))
 else
 some (.next (IntKind.wrap .i64 (i+1))))
 else
 some (.done (.brk ()))
def kE (p:ai):Int→Option (aS Int (Ex Unit Int)):=
 fun i1=>
 bif (decide (i1<(p.links.length:Int)))then
 (pG p (at' p.links i1.toNat)).bind fun r_=>
 bX ((0:Int)≤i1∧i1<(p.links.length:Int)) (
 bif (!r_)then
 some (.done (.ret 12))
 else
 some (.next (IntKind.wrap .i64 (i1+1))))
 else
 some (.done (.brk ()))
def kG (p:ai):Int→Option (aS Int (Ex Unit Int)):=
 fun i2=>
 bif (decide (i2<(p.racks.length:Int)))then
 bX ((0:Int)≤i2∧i2<(p.racks.length:Int)) (
 bif (decide ((((at' p.racks i2.toNat).feeds).e1)=(-1)))then
 bif (bif (bif (bif (bif (bif (bif (bif (bif (decide ((((at' p.racks i2.toNat).feeds).e0)<0))then true else(decide (p.buses≤(((at' p.racks i2.toNat).feeds).e0))))then true else(decide ((((at' p.racks i2.toNat).feeds).e1)<(-1))))then true else(decide (p.buses≤(((at' p.racks i2.toNat).feeds).e1))))then true else(decide ((((at' p.racks i2.toNat).feeds).e0)=(((at' p.racks i2.toNat).feeds).e1))))then true else(decide (((at' p.racks i2.toNat).power)<1)))then true else(decide (100000<((at' p.racks i2.toNat).power))))then true else(decide (((at' p.racks i2.toNat).paths)<0)))then true else(decide (1<((at' p.racks i2.toNat).paths))))then
 some (.done (.ret 13))
 else
 some (.next (IntKind.wrap .i64 (i2+1)))
 else
 bif (bif (bif (bif (bif (bif (bif (bif (bif (decide ((((at' p.racks i2.toNat).feeds).e0)<0))then true else(decide (p.buses≤(((at' p.racks i2.toNat).feeds).e0))))then true else(decide ((((at' p.racks i2.toNat).feeds).e1)<(-1))))then true else(decide (p.buses≤(((at' p.racks i2.toNat).feeds).e1))))then true else(decide ((((at' p.racks i2.toNat).feeds).e0)=(((at' p.racks i2.toNat).feeds).e1))))then true else(decide (((at' p.racks i2.toNat).power)<1)))then true else(decide (100000<((at' p.racks i2.toNat).power))))then true else(decide (((at' p.racks i2.toNat).paths)<0)))then true else(decide (2<((at' p.racks i2.toNat).paths))))then
 some (.done (.ret 13))
 else
 some (.next (IntKind.wrap .i64 (i2+1))))
 else
 some (.done (.brk ()))
def jM (p:ai):Option Int:=
 bif (bif (decide (p.buses<1))then true else(decide (24<p.buses)))then
 some 10
 else
 bif (decide (8<(p.sources.length:Int)))then
 some 11
 else
 Option.bind (aD (j5 p) FUEL (0)) fun o=>match o with
 | .ret v=>some v
 | .brk _=>
 bif (decide (40<(p.links.length:Int)))then
 some 12
 else
 Option.bind (aD (kE p) FUEL (0)) fun o=>match o with
 | .ret v=>some v
 | .brk _=>
 bif (decide (24<(p.racks.length:Int)))then
 some 13
 else
 Option.bind (aD (kG p) FUEL (0)) fun o=>match o with
 | .ret v=>some v
 | .brk _=>
 some 0
def mU (p:ai):Int→Option (aS Int (Ex Unit Bool)):=
 fun i=>
 bif (decide (i<(p.links.length:Int)))then
 bX ((0:Int)≤i∧i<(p.links.length:Int)) (
 bif (decide (20<(((at' p.links i.toNat).trip).length:Int)))then
 some (.done (.ret true))
 else
 some (.next (IntKind.wrap .i64 (i+1))))
 else
 some (.done (.brk ()))
def sH (p:ai):Option Bool:=
 bif (bif (bif (decide (60<(p.sources.length:Int)))then true else(decide (60<(p.links.length:Int))))then true else(decide (60<(p.racks.length:Int))))then
 some true
 else
 Option.bind (aD (mU p) FUEL (0)) fun o=>match o with
 | .ret v=>some v
 | .brk _=>
 (jM p).bind fun r_=>
 some (bif (decide (r_=0))then(bif (decide (10<p.buses))then true else(decide (16<(p.links.length:Int))))else false)
def iE (p:ai) (s_:State):((List aj) × Int)→Option (aS ((List aj) × Int) (Ex (List aj) ((List aj) × Int))):=
 fun zz=>match zz with
 |(out,t19)=>
 bif (decide (t19<p.buses))then
 (eY p s_ t19).bind fun r_1=>
 bX (((out.length+[r_1.1].length)*216≤140737488355328)∧(out.length+[r_1.1].length≤4611686018427387904)) (
 some (.next ((out++[r_1.1]),(IntKind.wrap .i64 (t19+1)))))
 else
 some (.done (.brk out))
def fO (p:ai) (s_:State):Option ((List aj) × Int):=
 (dG p s_).bind fun r_=>
 bif (!decide (r_=0))then
 some (([]:List aj),r_)
 else
 Option.bind (aD (iE p s_) FUEL (([]:List aj),0)) fun o=>match o with
 | .ret v=>some v
 | .brk out1=>
 some (out1,0)
def jY (p:ai) (s_:State):Int→Option (aS Int (Ex Unit Bool)):=
 fun i=>
 bif (decide (i<(p.links.length:Int)))then
 bX (((0:Int)≤i∧i<(p.links.length:Int))∧(gB [((decide (((at' p.links i.toNat).kind)=1)),true)]=true→(0:Int)≤i∧i<(s_.closed.length:Int))∧(gB [((!(at' s_.closed i.toNat)),false),((decide (((at' p.links i.toNat).kind)=1)),true)]=true→(0:Int)≤i∧i<(s_.locked.length:Int))) (
 bif (bif (decide (((at' p.links i.toNat).kind)=1))then(bif (!(at' s_.closed i.toNat))then true else(at' s_.locked i.toNat))else false)then
 some (.done (.ret false))
 else
 some (.next (IntKind.wrap .i64 (i+1))))
 else
 some (.done (.brk ()))
def nW (p:ai) (s_:State):Option Bool:=
 bif (bif (bif (bif (bif (bif (bif (!decide ((s_.closed.length:Int)=(p.links.length:Int)))then true else(!decide ((s_.locked.length:Int)=(p.links.length:Int))))then true else(!decide ((s_.badLink.length:Int)=(p.links.length:Int))))then true else(!decide ((s_.on_.length:Int)=(p.sources.length:Int))))then true else(!decide ((s_.badSource.length:Int)=(p.sources.length:Int))))then true else(!decide ((s_.earthed.length:Int)=p.buses)))then true else(!decide ((s_.badBus.length:Int)=p.buses)))then
 some false
 else
 Option.bind (aD (jY p s_) FUEL (0)) fun o=>match o with
 | .ret v=>some v
 | .brk _=>
 some true
def fq (p:ai) (s_:State):Option Int:=
 (jM p).bind fun r_=>
 (bif gB [((decide (r_=0)),true)]then nW p s_ else some default).bind fun r_1=>
 bif (bif (decide (r_=0))then(!r_1)else false)then
 some 9
 else
 some r_
def bZ (l:(List Bool)):Option (List Bool):=
 bX ((l.length*1≤140737488355328)∧(l.length≤4611686018427387904)) (
 some l)
def lm (x:State):Option State:=
 (bZ x.closed).bind fun r_=>
 (bZ x.locked).bind fun r_1=>
 (bZ x.badLink).bind fun r_2=>
 (bZ x.on_).bind fun r_3=>
 (bZ x.badSource).bind fun r_4=>
 (bZ x.earthed).bind fun r_5=>
 (bZ x.badBus).bind fun r_6=>
 some (⟨r_,r_1,r_2,r_3,r_4,r_5,r_6⟩:State)
def nV (p:ai) (s_:State) (k:Int):Option Bool:=
 bX (((0:Int)≤k∧k<(s_.on_.length:Int))∧(gB [((at' s_.on_ k.toNat),true)]=true→(0:Int)≤k∧k<(s_.badSource.length:Int))∧(gB [((bif (at' s_.on_ k.toNat)then(!(at' s_.badSource k.toNat))else false),true)]=true→(0:Int)≤k∧k<(p.sources.length:Int))∧(gB [((bif (at' s_.on_ k.toNat)then(!(at' s_.badSource k.toNat))else false),true)]=true→(0:Int)≤(at' p.sources k.toNat).bus∧(at' p.sources k.toNat).bus<(s_.badBus.length:Int))) (
 some (bif (bif (at' s_.on_ k.toNat)then(!(at' s_.badSource k.toNat))else false)then(!(at' s_.badBus (((at' p.sources k.toNat).bus).toNat)))else false))
def eD (p:ai) (s_:State) (i:Int):Option Bool:=
 bX (((0:Int)≤i∧i<(s_.closed.length:Int))∧(gB [((at' s_.closed i.toNat),true)]=true→(0:Int)≤i∧i<(s_.badLink.length:Int))∧(gB [((bif (at' s_.closed i.toNat)then(!(at' s_.badLink i.toNat))else false),true)]=true→(0:Int)≤i∧i<(p.links.length:Int))∧(gB [((bif (at' s_.closed i.toNat)then(!(at' s_.badLink i.toNat))else false),true)]=true→(0:Int)≤(at' p.links i.toNat).a∧(at' p.links i.toNat).a<(s_.badBus.length:Int))∧(gB [((bif (bif (at' s_.closed i.toNat)then(!(at' s_.badLink i.toNat))else false)then(!(at' s_.badBus (((at' p.links i.toNat).a).toNat)))else false),true)]=true→(0:Int)≤i∧i<(p.links.length:Int))∧(gB [((bif (bif (at' s_.closed i.toNat)then(!(at' s_.badLink i.toNat))else false)then(!(at' s_.badBus (((at' p.links i.toNat).a).toNat)))else false),true)]=true→(0:Int)≤(at' p.links i.toNat).b∧(at' p.links i.toNat).b<(s_.badBus.length:Int))) (
 some (bif (bif (bif (at' s_.closed i.toNat)then(!(at' s_.badLink i.toNat))else false)then(!(at' s_.badBus (((at' p.links i.toNat).a).toNat)))else false)then(!(at' s_.badBus (((at' p.links i.toNat).b).toNat)))else false))
def fA (l:(List Int)) (best:(List Int)):Int→Option (aS Int (Ex Unit Bool)):=
 fun i=>
 bif (decide (i<(l.length:Int)))then
 bX (((0:Int)≤i∧i<(l.length:Int))∧((0:Int)≤i∧i<(best.length:Int))) (
 bif (!decide ((at' l i.toNat)=(at' best i.toNat)))then
 bX (((0:Int)≤i∧i<(l.length:Int))∧((0:Int)≤i∧i<(best.length:Int))) (
 some (.done (.ret (decide ((at' l i.toNat)<(at' best i.toNat))))))
 else
 some (.next (IntKind.wrap .i64 (i+1))))
 else
 some (.done (.brk ()))
def fe (bK:Int) (l:(List Int)) (least:Int) (best:(List Int)):Option Bool:=
 bif (!decide (bK=least))then
 some (decide (bK<least))
 else
 bif (!decide ((l.length:Int)=(best.length:Int)))then
 some (decide ((l.length:Int)<(best.length:Int)))
 else
 Option.bind (aD (fA l best) FUEL (0)) fun o=>match o with
 | .ret v=>some v
 | .brk _=>
 some false
def kz (rec:ai→State→Int→Int→(List Bool)→Option (Int × (List Int))) (p:ai) (s_:State) (from_:Int) (to_:Int) (met:(List Bool)):(Int × (List Int) × Int)→Option (aS (Int × (List Int) × Int) (Ex (Int × (List Int)) (Int × (List Int)))):=
 fun zz=>match zz with
 |(bK,best,i)=>
 bif (decide (i<(p.links.length:Int)))then
 Option.bind (α:=(Int × (List Int))) (
 bX ((0:Int)≤i∧i<(p.links.length:Int)) (
 bif (decide (((at' p.links i.toNat).a)=from_))then
 bif (decide (((at' p.links i.toNat).b)=from_))then
 (bif gB [((bif (decide (((at' p.links i.toNat).a)<0))then true else(at' ((([]:List Bool)++met).set from_.toNat true) (((at' p.links i.toNat).a).toNat))),false)]then eD p s_ i else some default).bind fun r_=>
 bX (gB [((decide (((at' p.links i.toNat).a)<0)),false)]=true→(0:Int)≤(at' p.links i.toNat).a∧(at' p.links i.toNat).a<(((([]:List Bool)++met).set from_.toNat true).length:Int)) (
 bif (bif (bif (decide (((at' p.links i.toNat).a)<0))then true else(at' ((([]:List Bool)++met).set from_.toNat true) (((at' p.links i.toNat).a).toNat)))then true else(!r_))then
 some (bK,best)
 else
 (rec p s_ ((at' p.links i.toNat).a) to_ ((([]:List Bool)++met).set from_.toNat true)).bind fun r_1=>
 bif (decide (r_1.1<0))then
 some (bK,best)
 else
 bX ((([i].length+r_1.2.length)*8≤140737488355328)∧([i].length+r_1.2.length≤4611686018427387904)) (
 (bif gB [((decide (bK<0)),false)]then fe (IntKind.wrap .i64 (((at' p.links i.toNat).bK)+r_1.1)) ([i]++r_1.2) bK best else some default).bind fun r_2=>
 bif (bif (decide (bK<0))then true else r_2)then
 some ((IntKind.wrap .i64 (((at' p.links i.toNat).bK)+r_1.1)),([i]++r_1.2))
 else
 some (bK,best)))
 else
 (bif gB [((bif (decide (((at' p.links i.toNat).b)<0))then true else(at' ((([]:List Bool)++met).set from_.toNat true) (((at' p.links i.toNat).b).toNat))),false)]then eD p s_ i else some default).bind fun r_3=>
 bX (gB [((decide (((at' p.links i.toNat).b)<0)),false)]=true→(0:Int)≤(at' p.links i.toNat).b∧(at' p.links i.toNat).b<(((([]:List Bool)++met).set from_.toNat true).length:Int)) (
 bif (bif (bif (decide (((at' p.links i.toNat).b)<0))then true else(at' ((([]:List Bool)++met).set from_.toNat true) (((at' p.links i.toNat).b).toNat)))then true else(!r_3))then
 some (bK,best)
 else
 (rec p s_ ((at' p.links i.toNat).b) to_ ((([]:List Bool)++met).set from_.toNat true)).bind fun r_4=>
 bif (decide (r_4.1<0))then
 some (bK,best)
 else
 bX ((([i].length+r_4.2.length)*8≤140737488355328)∧([i].length+r_4.2.length≤4611686018427387904)) (
 (bif gB [((decide (bK<0)),false)]then fe (IntKind.wrap .i64 (((at' p.links i.toNat).bK)+r_4.1)) ([i]++r_4.2) bK best else some default).bind fun r_5=>
 bif (bif (decide (bK<0))then true else r_5)then
 some ((IntKind.wrap .i64 (((at' p.links i.toNat).bK)+r_4.1)),([i]++r_4.2))
 else
 some (bK,best)))
 else
 bif (decide (((at' p.links i.toNat).b)=from_))then
 (bif gB [((bif (decide (((at' p.links i.toNat).a)<0))then true else(at' ((([]:List Bool)++met).set from_.toNat true) (((at' p.links i.toNat).a).toNat))),false)]then eD p s_ i else some default).bind fun r_6=>
 bX (gB [((decide (((at' p.links i.toNat).a)<0)),false)]=true→(0:Int)≤(at' p.links i.toNat).a∧(at' p.links i.toNat).a<(((([]:List Bool)++met).set from_.toNat true).length:Int)) (
 bif (bif (bif (decide (((at' p.links i.toNat).a)<0))then true else(at' ((([]:List Bool)++met).set from_.toNat true) (((at' p.links i.toNat).a).toNat)))then true else(!r_6))then
 some (bK,best)
 else
 (rec p s_ ((at' p.links i.toNat).a) to_ ((([]:List Bool)++met).set from_.toNat true)).bind fun r_7=>
 bif (decide (r_7.1<0))then
 some (bK,best)
 else
 bX ((([i].length+r_7.2.length)*8≤140737488355328)∧([i].length+r_7.2.length≤4611686018427387904)) (
 (bif gB [((decide (bK<0)),false)]then fe (IntKind.wrap .i64 (((at' p.links i.toNat).bK)+r_7.1)) ([i]++r_7.2) bK best else some default).bind fun r_8=>
 bif (bif (decide (bK<0))then true else r_8)then
 some ((IntKind.wrap .i64 (((at' p.links i.toNat).bK)+r_7.1)),([i]++r_7.2))
 else
 some (bK,best)))
 else
 (bif gB [((bif true then true else false),false)]then eD p s_ i else some default).bind fun r_9=>
 bif (bif (bif true then true else false)then true else(!r_9))then
 some (bK,best)
 else
 (rec p s_ (-1) to_ ((([]:List Bool)++met).set from_.toNat true)).bind fun r_10=>
 bif (decide (r_10.1<0))then
 some (bK,best)
 else
 bX ((([i].length+r_10.2.length)*8≤140737488355328)∧([i].length+r_10.2.length≤4611686018427387904)) (
 (bif gB [((decide (bK<0)),false)]then fe (IntKind.wrap .i64 (((at' p.links i.toNat).bK)+r_10.1)) ([i]++r_10.2) bK best else some default).bind fun r_11=>
 bif (bif (decide (bK<0))then true else r_11)then
 some ((IntKind.wrap .i64 (((at' p.links i.toNat).bK)+r_10.1)),([i]++r_10.2))
 else
 some (bK,best)))) fun(ohm2,best2)=>
 some (.next (ohm2,best2,(IntKind.wrap .i64 (i+1))))
 else
 some (.done (.brk (bK,best)))
def ku (rec:ai→State→Int→Int→(List Bool)→Option (Int × (List Int))) (p:ai) (s_:State) (from_:Int) (to_:Int) (met:(List Bool)):Option (Int × (List Int)):=
 bif (decide (from_=to_))then
 some (0,([]:List Int))
 else
 bX (((([]:List Bool).length+met.length)*1≤140737488355328)∧(([]:List Bool).length+met.length≤4611686018427387904)) (
 bX ((0:Int)≤from_∧from_<((([]:List Bool)++met).length:Int)) (
 Option.bind (aD (kz rec p s_ from_ to_ met) FUEL ((-1),([]:List Int),0)) fun o=>match o with
 | .ret v=>some v
 | .brk (ohm1,best1)=>
 some (ohm1,best1)))
def iX:Nat→ai→State→Int→Int→(List Bool)→Option (Int × (List Int))
 |0,_,_,_,_,_=>none
 |n+1,p,s_,from_,to_,met=>ku (iX n) p s_ from_ to_ met
def dQ (p:ai) (s_:State) (bus:Int):((List Short) × Int)→Option (aS ((List Short) × Int) (Ex (List Short) ((List Short) × Int))):=
 fun zz=>match zz with
 |(out,k)=>
 bX (gB [((decide (k<(p.sources.length:Int))),true)]=true→(0:Int)≤bus∧bus<(s_.badBus.length:Int)) (
 bif (bif (decide (k<(p.sources.length:Int)))then(!(at' s_.badBus bus.toNat))else false)then
 Option.bind (α:=(List Short)) (
 (nV p s_ k).bind fun r_1=>
 bif (!r_1)then
 some out
 else
 (iX FUEL p s_ ((at' p.sources k.toNat).bus) bus (List.replicate p.buses.toNat (false:Bool))).bind fun r_2=>
 bX (((0:Int)≤k∧k<(p.sources.length:Int))∧((0:Int)≤p.buses)∧((1:Int)*p.buses≤281474976710656)∧((p.buses:Int)≤9223372036854775807)) (
 bif (decide (r_2.1<0))then
 some out
 else
 bX ((0:Int)≤k∧k<(p.sources.length:Int)) (
 bX ((IntKind.wrap .i64 (r_2.1+((at' p.sources k.toNat).bK)))≠(0:Int)) (
 bif (decide ((IntKind.wrap .i64 ((IntKind.wrap .i64 (Int.tdiv (400000:Int) (IntKind.wrap .i64 (r_2.1+((at' p.sources k.toNat).bK)))))*(IntKind.wrap .i64 (r_2.1+((at' p.sources k.toNat).bK)))))<400000))then
 bX (((out.length+[(⟨k,(IntKind.wrap .i64 (r_2.1+((at' p.sources k.toNat).bK))),(IntKind.wrap .i64 ((IntKind.wrap .i64 (Int.tdiv (400000:Int) (IntKind.wrap .i64 (r_2.1+((at' p.sources k.toNat).bK)))))+1)),r_2.2⟩:Short)].length)*48≤140737488355328)∧(out.length+[(⟨k,(IntKind.wrap .i64 (r_2.1+((at' p.sources k.toNat).bK))),(IntKind.wrap .i64 ((IntKind.wrap .i64 (Int.tdiv (400000:Int) (IntKind.wrap .i64 (r_2.1+((at' p.sources k.toNat).bK)))))+1)),r_2.2⟩:Short)].length≤4611686018427387904)) (
 some (out++[(⟨k,(IntKind.wrap .i64 (r_2.1+((at' p.sources k.toNat).bK))),(IntKind.wrap .i64 ((IntKind.wrap .i64 (Int.tdiv (400000:Int) (IntKind.wrap .i64 (r_2.1+((at' p.sources k.toNat).bK)))))+1)),r_2.2⟩:Short)]))
 else
 bX (((out.length+[(⟨k,(IntKind.wrap .i64 (r_2.1+((at' p.sources k.toNat).bK))),(IntKind.wrap .i64 (Int.tdiv (400000:Int) (IntKind.wrap .i64 (r_2.1+((at' p.sources k.toNat).bK))))),r_2.2⟩:Short)].length)*48≤140737488355328)∧(out.length+[(⟨k,(IntKind.wrap .i64 (r_2.1+((at' p.sources k.toNat).bK))),(IntKind.wrap .i64 (Int.tdiv (400000:Int) (IntKind.wrap .i64 (r_2.1+((at' p.sources k.toNat).bK))))),r_2.2⟩:Short)].length≤4611686018427387904)) (
 some (out++[(⟨k,(IntKind.wrap .i64 (r_2.1+((at' p.sources k.toNat).bK))),(IntKind.wrap .i64 (Int.tdiv (400000:Int) (IntKind.wrap .i64 (r_2.1+((at' p.sources k.toNat).bK))))),r_2.2⟩:Short)])))))) fun out2=>
 some (.next (out2,(IntKind.wrap .i64 (k+1))))
 else
 some (.done (.brk out)))
def mP (p:ai) (s_:State) (bus:Int):Option ((List Short) × Int):=
 (fq p s_).bind fun r_=>
 bif (!decide (r_=0))then
 some (([]:List Short),r_)
 else
 bif (bif (decide (bus<0))then true else(decide (p.buses≤bus)))then
 some (([]:List Short),1)
 else
 Option.bind (aD (dQ p s_ bus) FUEL (([]:List Short),0)) fun o=>match o with
 | .ret v=>some v
 | .brk out1=>
 some (out1,0)
def gU (p:ai) (l:(List Short)) (n:Int):((List Bool) × Int)→Option (aS ((List Bool) × Int) (Ex (List Bool) (aS ((List Int) × Int) (Ex (List Int) ((List Int) × Int))))):=
 fun zz=>match zz with
 |(has,i)=>
 bX ((0:Int)≤n∧n<(l.length:Int)) (
 bif (decide (i<(((at' l n.toNat).links).length:Int)))then
 bX (((0:Int)≤n∧n<(l.length:Int))∧((0:Int)≤i∧i<(((at' l n.toNat).links).length:Int))) (
 bif (bif (decide ((at' ((at' l n.toNat).links) i.toNat)<0))then true else(decide ((p.links.length:Int)≤(at' ((at' l n.toNat).links) i.toNat))))then
 some (.done (.ret (.done (.ret (([]:List Int),1)))))
 else
 bX ((0:Int)≤(at' ((at' l n.toNat).links) i.toNat)∧(at' ((at' l n.toNat).links) i.toNat)<(has.length:Int)) (
 some (.next ((has.set ((at' ((at' l n.toNat).links) i.toNat).toNat) true),(IntKind.wrap .i64 (i+1))))))
 else
 some (.done (.brk has)))
def gQ (l:(List Short)) (n:Int) (has1:(List Bool)):((List Int) × Int)→Option (aS ((List Int) × Int) (Ex (List Int) (aS ((List Int) × Int) (Ex (List Int) ((List Int) × Int))))):=
 fun zz=>match zz with
 |(out2,k)=>
 bif (decide (k<(out2.length:Int)))then
 bX ((0:Int)≤k∧k<(has1.length:Int)) (
 bif (at' has1 k.toNat)then
 bX (((0:Int)≤k∧k<(out2.length:Int))∧((0:Int)≤n∧n<(l.length:Int))) (
 some (.next ((out2.set k.toNat (IntKind.wrap .i64 ((at' out2 k.toNat)+((at' l n.toNat).amps)))),(IntKind.wrap .i64 (k+1)))))
 else
 some (.next (out2,(IntKind.wrap .i64 (k+1)))))
 else
 some (.done (.brk out2))
def gN (p:ai) (l:(List Short)):((List Int) × Int)→Option (aS ((List Int) × Int) (Ex (List Int) ((List Int) × Int))):=
 fun zz=>match zz with
 |(out,n)=>
 bif (decide (n<(l.length:Int)))then
 bX (((0:Int)≤n∧n<(l.length:Int))∧(gB [((decide (((at' l n.toNat).amps)<0)),false)]=true→(0:Int)≤n∧n<(l.length:Int))) (
 bif (bif (decide (((at' l n.toNat).amps)<0))then true else(decide (1000000<((at' l n.toNat).amps))))then
 some (.done (.ret (([]:List Int),1)))
 else
 bX (((0:Int)≤(p.links.length:Int))∧((1:Int)*(p.links.length:Int)≤281474976710656)∧(((p.links.length:Int):Int)≤9223372036854775807)) (
 Option.bind (aD (gU p l n) FUEL ((List.replicate ((p.links.length:Int).toNat) (false:Bool)),0)) fun o=>match o with
 | .ret v=>some v
 | .brk has1=>
 Option.bind (aD (gQ l n has1) FUEL (out,0)) fun o=>match o with
 | .ret v=>some v
 | .brk out3=>
 some (.next (out3,(IntKind.wrap .i64 (n+1))))))
 else
 some (.done (.brk out))
def lq (p:ai) (l:(List Short)):Option ((List Int) × Int):=
 (jM p).bind fun r_=>
 bif (!decide (r_=0))then
 some (([]:List Int),r_)
 else
 bif (decide (8<(l.length:Int)))then
 some (([]:List Int),1)
 else
 bX (((0:Int)≤(p.links.length:Int))∧((8:Int)*(p.links.length:Int)≤281474976710656)∧(((p.links.length:Int):Int)≤9223372036854775807)) (
 Option.bind (aD (gN p l) FUEL ((List.replicate ((p.links.length:Int).toNat) (0:Int)),0)) fun o=>match o with
 | .ret v=>some v
 | .brk out1=>
 some (out1,0))
def iY (x:Link) (amps:Int):(Int × Bool × Int)→Option (aS (Int × Bool × Int) (Ex (Int × Bool) (Int × Bool))):=
 fun zz=>match zz with
 |(out,ok,i)=>
 bif (decide (i<(x.trip.length:Int)))then
 bX ((0:Int)≤i∧i<(x.trip.length:Int)) (
 bif (decide (((at' x.trip i.toNat).amps)≤amps))then
 bX ((0:Int)≤i∧i<(x.trip.length:Int)) (
 some (.next ((at' x.trip i.toNat).millis,true,(IntKind.wrap .i64 (i+1)))))
 else
 some (.next (out,ok,(IntKind.wrap .i64 (i+1)))))
 else
 some (.done (.brk (out,ok)))
def lI (x:Link) (amps:Int):Option (Int × Bool):=
 Option.bind (aD (iY x amps) FUEL (0,false,0)) fun o=>match o with
 | .ret v=>some v
 | .brk (out1,ok1)=>
 some (out1,ok1)
def jC (p:ai) (s_:State) (i:Int) (amps:Int) (since:Int):Option Int:=
 bX (((0:Int)≤i∧i<(p.links.length:Int))∧(gB [((!decide (((at' p.links i.toNat).kind)=3)),false)]=true→(0:Int)≤i∧i<(s_.closed.length:Int))∧(gB [((bif (!decide (((at' p.links i.toNat).kind)=3))then true else(!(at' s_.closed i.toNat))),false)]=true→(0:Int)≤i∧i<(s_.badLink.length:Int))) (
 bif (bif (bif (!decide (((at' p.links i.toNat).kind)=3))then true else(!(at' s_.closed i.toNat)))then true else(at' s_.badLink i.toNat))then
 some (-1)
 else
 (lI (at' p.links i.toNat) amps).bind fun r_=>
 bX ((0:Int)≤i∧i<(p.links.length:Int)) (
 bif (!r_.2)then
 some (-1)
 else
 some (IntKind.wrap .i64 (since+r_.1))))
def jZ (r_2:((List Short) × Int)):(Int × Int)→Option (aS (Int × Int) (Ex Int (aS ((List Event) × Int × Int × (List Bool) × (List Int) × (List Int)) (Ex Unit (af × Int))))):=
 fun zz=>match zz with
 |(total,k)=>
 bif (decide (k<(r_2.1.length:Int)))then
 bX ((0:Int)≤k∧k<(r_2.1.length:Int)) (
 some (.next ((IntKind.wrap .i64 (total+((at' r_2.1 k.toNat).amps))),(IntKind.wrap .i64 (k+1)))))
 else
 some (.done (.brk total))
def iZ (p:ai) (r_1:State) (c2:Int) (c4:(List Bool)) (before:(List Int)) (r_3:((List Int) × Int)):((List Int) × Int × Int)→Option (aS ((List Int) × Int × Int) (Ex ((List Int) × Int) (aS ((List Event) × Int × Int × (List Bool) × (List Int) × (List Int)) (Ex Unit (af × Int))))):=
 fun zz=>match zz with
 |(since1,next_,i)=>
 bif (decide (i<(p.links.length:Int)))then
 Option.bind (α:=((List Int) × Int)) (
 bX (((0:Int)≤i∧i<(r_3.1.length:Int))∧((0:Int)≤i∧i<(before.length:Int))) (
 bif (!decide ((at' r_3.1 i.toNat)=(at' before i.toNat)))then
 bX ((0:Int)≤i∧i<(since1.length:Int)) (
 (jC p (⟨c4,r_1.locked,r_1.badLink,r_1.on_,r_1.badSource,r_1.earthed,r_1.badBus⟩:State) i (at' r_3.1 i.toNat) (at' (since1.set i.toNat c2) i.toNat)).bind fun r_4=>
 bX (((0:Int)≤i∧i<(r_3.1.length:Int))∧((0:Int)≤i∧i<((since1.set i.toNat c2).length:Int))) (
 bif (bif (decide (0≤r_4))then(bif (decide (next_<0))then true else(decide (r_4<next_)))else false)then
 some ((since1.set i.toNat c2),r_4)
 else
 some ((since1.set i.toNat c2),next_)))
 else
 (jC p (⟨c4,r_1.locked,r_1.badLink,r_1.on_,r_1.badSource,r_1.earthed,r_1.badBus⟩:State) i (at' r_3.1 i.toNat) (at' since1 i.toNat)).bind fun r_5=>
 bX (((0:Int)≤i∧i<(r_3.1.length:Int))∧((0:Int)≤i∧i<(since1.length:Int))) (
 bif (bif (decide (0≤r_5))then(bif (decide (next_<0))then true else(decide (r_5<next_)))else false)then
 some (since1,r_5)
 else
 some (since1,next_)))) fun(since3,next_2)=>
 some (.next (since3,next_2,(IntKind.wrap .i64 (i+1))))
 else
 some (.done (.brk (since1,next_)))
def jd (p:ai) (r_1:State) (c2:Int) (r_3:((List Int) × Int)) (since2:(List Int)) (next_1:Int):((List Event) × (List Bool) × Int)→Option (aS ((List Event) × (List Bool) × Int) (Ex ((List Event) × (List Bool)) (aS ((List Event) × Int × Int × (List Bool) × (List Int) × (List Int)) (Ex Unit (af × Int))))):=
 fun zz=>match zz with
 |(c01,c41,i1)=>
 bif (decide (i1<(p.links.length:Int)))then
 (jC p (⟨c41,r_1.locked,r_1.badLink,r_1.on_,r_1.badSource,r_1.earthed,r_1.badBus⟩:State) i1 (at' r_3.1 i1.toNat) (at' since2 i1.toNat)).bind fun r_6=>
 bX (((0:Int)≤i1∧i1<(r_3.1.length:Int))∧((0:Int)≤i1∧i1<(since2.length:Int))) (
 bif (bif (decide (0≤r_6))then(decide (r_6≤(if next_1<c2 then c2 else next_1)))else false)then
 bX (((c01.length+[(⟨(if next_1<c2 then c2 else next_1),i1⟩:Event)].length)*16≤140737488355328)∧(c01.length+[(⟨(if next_1<c2 then c2 else next_1),i1⟩:Event)].length≤4611686018427387904)) (
 bX ((0:Int)≤i1∧i1<(c41.length:Int)) (
 some (.next ((c01++[(⟨(if next_1<c2 then c2 else next_1),i1⟩:Event)]),(c41.set i1.toNat false),(IntKind.wrap .i64 (i1+1))))))
 else
 some (.next (c01,c41,(IntKind.wrap .i64 (i1+1)))))
 else
 some (.done (.brk (c01,c41)))
def jb (p:ai) (r_1:State) (c2:Int) (r_3:((List Int) × Int)) (since2:(List Int)) (next_1:Int):((List Event) × (List Bool) × Int)→Option (aS ((List Event) × (List Bool) × Int) (Ex ((List Event) × (List Bool)) (aS ((List Event) × Int × Int × (List Bool) × (List Int) × (List Int)) (Ex Unit (af × Int))))):=
 fun zz=>match zz with
 |(c03,c43,i2)=>
 bif (decide (i2<(p.links.length:Int)))then
 (jC p (⟨c43,r_1.locked,r_1.badLink,r_1.on_,r_1.badSource,r_1.earthed,r_1.badBus⟩:State) i2 (at' r_3.1 i2.toNat) (at' since2 i2.toNat)).bind fun r_7=>
 bX (((0:Int)≤i2∧i2<(r_3.1.length:Int))∧((0:Int)≤i2∧i2<(since2.length:Int))) (
 bif (bif (decide (0≤r_7))then(decide (r_7≤(if next_1<c2 then c2 else next_1)))else false)then
 bX (((c03.length+[(⟨(if next_1<c2 then c2 else next_1),i2⟩:Event)].length)*16≤140737488355328)∧(c03.length+[(⟨(if next_1<c2 then c2 else next_1),i2⟩:Event)].length≤4611686018427387904)) (
 bX ((0:Int)≤i2∧i2<(c43.length:Int)) (
 some (.next ((c03++[(⟨(if next_1<c2 then c2 else next_1),i2⟩:Event)]),(c43.set i2.toNat false),(IntKind.wrap .i64 (i2+1))))))
 else
 some (.next (c03,c43,(IntKind.wrap .i64 (i2+1)))))
 else
 some (.done (.brk (c03,c43)))
def gT (p:ai) (bus:Int) (r_1:State):((List Event) × Int × Int × (List Bool) × (List Int) × (List Int))→Option (aS ((List Event) × Int × Int × (List Bool) × (List Int) × (List Int)) (Ex Unit (af × Int))):=
 fun zz=>match zz with
 |(c0,c2,c3,c4,since,before)=>
 (mP p (⟨c4,r_1.locked,r_1.badLink,r_1.on_,r_1.badSource,r_1.earthed,r_1.badBus⟩:State) bus).bind fun r_2=>
 (lq p r_2.1).bind fun r_3=>
 Option.bind (aD (jZ r_2) FUEL (0,0)) fun o=>match o with
 | .ret v=>some v
 | .brk total1=>
 bif (decide (total1=0))then
 some (.done (.ret ((⟨c0,true,c2,c3,(⟨c4,r_1.locked,r_1.badLink,r_1.on_,r_1.badSource,r_1.earthed,r_1.badBus⟩:State)⟩:af),0)))
 else
 Option.bind (aD (iZ p r_1 c2 c4 before r_3) FUEL (since,(-1),0)) fun o=>match o with
 | .ret v=>some v
 | .brk (since2,next_1)=>
 bif (decide (next_1<0))then
 some (.done (.ret ((⟨c0,false,c2,c3,(⟨c4,r_1.locked,r_1.badLink,r_1.on_,r_1.badSource,r_1.earthed,r_1.badBus⟩:State)⟩:af),0)))
 else
 bX (1000≠(0:Int)) (
 bif (decide ((IntKind.wrap .i64 ((IntKind.wrap .i64 (Int.tdiv (IntKind.wrap .i64 (total1*total1)) 1000))*1000))<(IntKind.wrap .i64 (total1*total1))))then
 Option.bind (aD (jd p r_1 c2 r_3 since2 next_1) FUEL (c0,c4,0)) fun o=>match o with
 | .ret v=>some v
 | .brk (c02,c42)=>
 some (.next (c02,(if next_1<c2 then c2 else next_1),(IntKind.wrap .i64 (c3+(IntKind.wrap .i64 ((IntKind.wrap .i64 ((IntKind.wrap .i64 (Int.tdiv (IntKind.wrap .i64 (total1*total1)) 1000))+1))*(IntKind.wrap .i64 ((if next_1<c2 then c2 else next_1) - c2)))))),c42,since2,r_3.1))
 else
 Option.bind (aD (jb p r_1 c2 r_3 since2 next_1) FUEL (c0,c4,0)) fun o=>match o with
 | .ret v=>some v
 | .brk (c04,c44)=>
 some (.next (c04,(if next_1<c2 then c2 else next_1),(IntKind.wrap .i64 (c3+(IntKind.wrap .i64 ((IntKind.wrap .i64 (Int.tdiv (IntKind.wrap .i64 (total1*total1)) 1000))*(IntKind.wrap .i64 ((if next_1<c2 then c2 else next_1) - c2)))))),c44,since2,r_3.1)))
def jK (p:ai) (s_:State) (bus:Int):Option (af × Int):=
 (fq p s_).bind fun r_=>
 bif (!decide (r_=0))then
 some ((⟨([]:List Event),false,0,0,(⟨([]:List Bool),([]:List Bool),([]:List Bool),([]:List Bool),([]:List Bool),([]:List Bool),([]:List Bool)⟩:State)⟩:af),r_)
 else
 bif (bif (decide (bus<0))then true else(decide (p.buses≤bus)))then
 some ((⟨([]:List Event),false,0,0,(⟨([]:List Bool),([]:List Bool),([]:List Bool),([]:List Bool),([]:List Bool),([]:List Bool),([]:List Bool)⟩:State)⟩:af),1)
 else
 (lm s_).bind fun r_1=>
 bX (((0:Int)≤(p.links.length:Int))∧((8:Int)*(p.links.length:Int)≤281474976710656)∧(((p.links.length:Int):Int)≤9223372036854775807)) (
 bX (((0:Int)≤(p.links.length:Int))∧((8:Int)*(p.links.length:Int)≤281474976710656)∧(((p.links.length:Int):Int)≤9223372036854775807)) (
 Option.bind (aD (gT p bus r_1) FUEL (([]:List Event),0,0,r_1.closed,(List.replicate ((p.links.length:Int).toNat) (0:Int)),(List.replicate ((p.links.length:Int).toNat) (0:Int)))) fun o=>match o with
 | .ret v=>some v
 | .brk _=>none))
def iG (p:ai) (s_:State):((List af) × Int)→Option (aS ((List af) × Int) (Ex (List af) ((List af) × Int))):=
 fun zz=>match zz with
 |(out,b)=>
 bif (decide (b<p.buses))then
 (jK p s_ b).bind fun r_1=>
 bX (((out.length+[r_1.1].length)*216≤140737488355328)∧(out.length+[r_1.1].length≤4611686018427387904)) (
 some (.next ((out++[r_1.1]),(IntKind.wrap .i64 (b+1)))))
 else
 some (.done (.brk out))
def fT (p:ai) (s_:State):Option ((List af) × Int):=
 (fq p s_).bind fun r_=>
 bif (!decide (r_=0))then
 some (([]:List af),r_)
 else
 Option.bind (aD (iG p s_) FUEL (([]:List af),0)) fun o=>match o with
 | .ret v=>some v
 | .brk out1=>
 some (out1,0)
def iM (a:(List Bool)) (b:(List Bool)):Int→Option (aS Int (Ex Unit Bool)):=
 fun i=>
 bif (decide (i<(a.length:Int)))then
 bX (((0:Int)≤i∧i<(a.length:Int))∧((0:Int)≤i∧i<(b.length:Int))) (
 bif (!((at' a i.toNat)==(at' b i.toNat)))then
 some (.done (.ret false))
 else
 some (.next (IntKind.wrap .i64 (i+1))))
 else
 some (.done (.brk ()))
def cu (a:(List Bool)) (b:(List Bool)):Option Bool:=
 bif (!decide ((a.length:Int)=(b.length:Int)))then
 some false
 else
 Option.bind (aD (iM a b) FUEL (0)) fun o=>match o with
 | .ret v=>some v
 | .brk _=>
 some true
def lu (a:State) (b:State):Option Bool:=
 (cu a.closed b.closed).bind fun r_=>
 (bif gB [(r_,true)]then cu a.locked b.locked else some default).bind fun r_1=>
 (bif gB [((bif r_ then r_1 else false),true)]then cu a.badLink b.badLink else some default).bind fun r_2=>
 (bif gB [((bif (bif r_ then r_1 else false)then r_2 else false),true)]then cu a.on_ b.on_ else some default).bind fun r_3=>
 (bif gB [((bif (bif (bif r_ then r_1 else false)then r_2 else false)then r_3 else false),true)]then cu a.badSource b.badSource else some default).bind fun r_4=>
 (bif gB [((bif (bif (bif (bif r_ then r_1 else false)then r_2 else false)then r_3 else false)then r_4 else false),true)]then cu a.earthed b.earthed else some default).bind fun r_5=>
 (bif gB [((bif (bif (bif (bif (bif r_ then r_1 else false)then r_2 else false)then r_3 else false)then r_4 else false)then r_5 else false),true)]then cu a.badBus b.badBus else some default).bind fun r_6=>
 some (bif (bif (bif (bif (bif (bif r_ then r_1 else false)then r_2 else false)then r_3 else false)then r_4 else false)then r_5 else false)then r_6 else false)
def lg (a:aj) (b:af):Int→Option (aS Int (Ex Unit Bool)):=
 fun i=>
 bif (decide (i<(a.events.length:Int)))then
 bX (((0:Int)≤i∧i<(a.events.length:Int))∧((0:Int)≤i∧i<(b.events.length:Int))) (
 bif (!((decide (((at' a.events i.toNat).millis)=((at' b.events i.toNat).millis))) && ((decide (((at' a.events i.toNat).link)=((at' b.events i.toNat).link))) && true)))then
 some (.done (.ret false))
 else
 some (.next (IntKind.wrap .i64 (i+1))))
 else
 some (.done (.brk ()))
def nE (a:aj) (b:af):Option Bool:=
 (bif gB [((bif (bif (bif (!decide ((a.events.length:Int)=(b.events.length:Int)))then true else(!(a.cleared==b.cleared)))then true else(!decide (a.millis=b.millis)))then true else(!decide (a.energy=b.energy))),false)]then lu a.state b.state else some default).bind fun r_=>
 bif (bif (bif (bif (bif (!decide ((a.events.length:Int)=(b.events.length:Int)))then true else(!(a.cleared==b.cleared)))then true else(!decide (a.millis=b.millis)))then true else(!decide (a.energy=b.energy)))then true else(!r_))then
 some false
 else
 Option.bind (aD (lg a b) FUEL (0)) fun o=>match o with
 | .ret v=>some v
 | .brk _=>
 some true
def gX (r_:((List aj) × Int)):(Int × Int × Int)→Option (aS (Int × Int × Int) (Ex (Int × Int) (Int × Int × Int))):=
 fun zz=>match zz with
 |(bus,energy,t24)=>
 bif (decide (t24<(r_.1.length:Int)))then
 bX ((0:Int)≤t24∧t24<(r_.1.length:Int)) (
 bif (bif (at' r_.1 t24.toNat).cleared then(bif (decide (bus<0))then true else(decide (energy<((at' r_.1 t24.toNat).energy))))else false)then
 some (.next (t24,(at' r_.1 t24.toNat).energy,(IntKind.wrap .i64 (t24+1))))
 else
 some (.next (bus,energy,(IntKind.wrap .i64 (t24+1)))))
 else
 some (.done (.brk (bus,energy)))
def jN (p:ai) (s_:State):Option (Int × Int × Int):=
 (fO p s_).bind fun r_=>
 bif (!decide (r_.2=0))then
 some (0,0,r_.2)
 else
 Option.bind (aD (gX r_) FUEL ((-1),0,0)) fun o=>match o with
 | .ret v=>some v
 | .brk (bus1,energy1)=>
 some (bus1,energy1,0)
def gW (r_:((List af) × Int)) (b:Int):(Bool × Int)→Option (aS (Bool × Int) (Ex Bool (aS Int (Ex Unit (Int × Int × Int))))):=
 fun zz=>match zz with
 |(best,c)=>
 bif (decide (c<(r_.1.length:Int)))then
 bX (((0:Int)≤c∧c<(r_.1.length:Int))∧(gB [((at' r_.1 c.toNat).cleared,true)]=true→(0:Int)≤c∧c<(r_.1.length:Int))∧(gB [((at' r_.1 c.toNat).cleared,true)]=true→(0:Int)≤b∧b<(r_.1.length:Int))∧(gB [((decide (((at' r_.1 b.toNat).energy)<((at' r_.1 c.toNat).energy))),false),((at' r_.1 c.toNat).cleared,true)]=true→(0:Int)≤c∧c<(r_.1.length:Int))∧(gB [((decide (((at' r_.1 b.toNat).energy)<((at' r_.1 c.toNat).energy))),false),((at' r_.1 c.toNat).cleared,true)]=true→(0:Int)≤b∧b<(r_.1.length:Int))) (
 bif (bif (at' r_.1 c.toNat).cleared then(bif (decide (((at' r_.1 b.toNat).energy)<((at' r_.1 c.toNat).energy)))then true else(bif (decide (((at' r_.1 c.toNat).energy)=((at' r_.1 b.toNat).energy)))then(decide (c<b))else false))else false)then
 some (.next (false,(IntKind.wrap .i64 (c+1))))
 else
 some (.next (best,(IntKind.wrap .i64 (c+1)))))
 else
 some (.done (.brk best))
def ja (r_:((List af) × Int)):Int→Option (aS Int (Ex Unit (Int × Int × Int))):=
 fun b=>
 bif (decide (b<(r_.1.length:Int)))then
 bX ((0:Int)≤b∧b<(r_.1.length:Int)) (
 Option.bind (aD (gW r_ b) FUEL ((at' r_.1 b.toNat).cleared,0)) fun o=>match o with
 | .ret v=>some v
 | .brk best1=>
 bif best1 then
 bX ((0:Int)≤b∧b<(r_.1.length:Int)) (
 some (.done (.ret (b,(at' r_.1 b.toNat).energy,0))))
 else
 some (.next (IntKind.wrap .i64 (b+1))))
 else
 some (.done (.brk ()))
def jQ (p:ai) (s_:State):Option (Int × Int × Int):=
 (fT p s_).bind fun r_=>
 bif (!decide (r_.2=0))then
 some (0,0,r_.2)
 else
 Option.bind (aD (ja r_) FUEL (0)) fun o=>match o with
 | .ret v=>some v
 | .brk _=>
 some ((-1),0,0)
def bY (r_2:((List aj) × Int)) (r_3:((List af) × Int)):Int→Option (aS Int (Ex Unit Bool)):=
 fun i=>
 bif (decide (i<(r_2.1.length:Int)))then
 (nE (⟨(at' r_2.1 i.toNat).events,(at' r_2.1 i.toNat).cleared,(at' r_2.1 i.toNat).millis,(at' r_2.1 i.toNat).energy,((at' r_2.1 i.toNat).state)⟩:aj) (⟨(at' r_3.1 i.toNat).events,(at' r_3.1 i.toNat).cleared,(at' r_3.1 i.toNat).millis,(at' r_3.1 i.toNat).energy,((at' r_3.1 i.toNat).state)⟩:af)).bind fun r_4=>
 bX (((0:Int)≤i∧i<(r_2.1.length:Int))∧((0:Int)≤i∧i<(r_3.1.length:Int))) (
 bif (!r_4)then
 some (.done (.ret false))
 else
 some (.next (IntKind.wrap .i64 (i+1))))
 else
 some (.done (.brk ()))
def iw (p:ai) (s_:State) (x:Link) (amps:Int):Option Bool:=
 (sH p).bind fun r_=>
 bif (bif r_ then true else(decide (20<(x.trip.length:Int))))then
 (om).bind fun r_1=>
 some r_1
 else
 (fO p s_).bind fun r_2=>
 (fT p s_).bind fun r_3=>
 bif (bif (!decide (r_2.2=r_3.2))then true else(!decide ((r_2.1.length:Int)=(r_3.1.length:Int))))then
 some false
 else
 Option.bind (aD (bY r_2 r_3) FUEL (0)) fun o=>match o with
 | .ret v=>some v
 | .brk _=>
 (jN p s_).bind fun r_5=>
 (jQ p s_).bind fun r_6=>
 (iW x amps).bind fun r_7=>
 (lI x amps).bind fun r_8=>
 (bif gB [((bif (bif (bif (bif (decide (r_5.1=r_6.1))then(decide (r_5.2.1=r_6.2.1))else false)then(decide (r_5.2.2=r_6.2.2))else false)then(decide (r_7.1=r_8.1))else false)then(r_7.2==r_8.2)else false),true)]then om else some default).bind fun r_9=>
 some (bif (bif (bif (bif (bif (decide (r_5.1=r_6.1))then(decide (r_5.2.1=r_6.2.1))else false)then(decide (r_5.2.2=r_6.2.2))else false)then(decide (r_7.1=r_8.1))else false)then(r_7.2==r_8.2)else false)then r_9 else false)
end Sg
