import Derived.Test.YtbjhjmcpfmhgdaaGreatWnLe
set_option linter.all false
namespace Sg
open Go
structure Source where
 bus:Int
 kind:Int
 power:Int
 sync:Int
 ohm:Int
instance:Inhabited Source:=⟨⟨default,default,default,default,default⟩⟩
def Source.cell (x:Source):Nat→DV
 |0=>(.int .i64 x.bus)
 |1=>(.int .i64 x.kind)
 |2=>(.int .i64 x.power)
 |3=>(.int .i64 x.sync)
 |4=>(.int .i64 x.ohm)
 |_=> .nilp
structure mE where
 amps:Int
 millis:Int
instance:Inhabited mE:=⟨⟨default,default⟩⟩
def mE.cell (x:mE):Nat→DV
 |0=>(.int .i64 x.amps)
 |1=>(.int .i64 x.millis)
 |_=> .nilp
structure Link where
 a:Int
 b:Int
 kind:Int
 most:Int
 ohm:Int
 trip:(List mE)
instance:Inhabited Link:=⟨⟨default,default,default,default,default,default⟩⟩
def Link.cell (x:Link):Nat→DV
 |0=>(.int .i64 x.a)
 |1=>(.int .i64 x.b)
 |2=>(.int .i64 x.kind)
 |3=>(.int .i64 x.most)
 |4=>(.int .i64 x.ohm)
 |5=>(aQ none 2 mE.cell x.trip)
 |_=> .nilp
structure au where
 e0:Int
 e1:Int
instance:Inhabited au:=⟨⟨default,default⟩⟩
def au.cell (x:au):Nat→DV
 |0=>(.int .i64 x.e0)
 |1=>(.int .i64 x.e1)
 |_=> .nilp
structure aM where
 feeds:au
 power:Int
 paths:Int
instance:Inhabited aM:=⟨⟨default,default,default⟩⟩
def aM.cell (x:aM):Nat→DV
 |0=>(.int .i64 x.feeds.e0)
 |1=>(.int .i64 x.feeds.e1)
 |2=>(.int .i64 x.power)
 |3=>(.int .i64 x.paths)
 |_=> .nilp
structure aC where
 buses:Int
 sources:(List Source)
 links:(List Link)
 racks:(List aM)
instance:Inhabited aC:=⟨⟨default,default,default,default⟩⟩
def aC.cell (x:aC):Nat→DV
 |0=>(.int .i64 x.buses)
 |1=>(aQ none 5 Source.cell x.sources)
 |2=>(aQ none 6 Link.cell x.links)
 |3=>(aQ none 4 aM.cell x.racks)
 |_=> .nilp
structure State where
 closed:(List Bool)
 locked:(List Bool)
 badLink:(List Bool)
 on_:(List Bool)
 badSource:(List Bool)
 earthed:(List Bool)
 badBus:(List Bool)
instance:Inhabited State:=⟨⟨default,default,default,default,default,default,default⟩⟩
def State.cell (x:State):Nat→DV
 |0=>(aQ none 1 af x.closed)
 |1=>(aQ none 1 af x.locked)
 |2=>(aQ none 1 af x.badLink)
 |3=>(aQ none 1 af x.on_)
 |4=>(aQ none 1 af x.badSource)
 |5=>(aQ none 1 af x.earthed)
 |6=>(aQ none 1 af x.badBus)
 |_=> .nilp
structure bQ where
 l:(List Bool)
 n:Int
instance:Inhabited bQ:=⟨⟨default,default⟩⟩
def bQ.cell (x:bQ):Nat→DV
 |0=>(aQ none 1 af x.l)
 |1=>(.int .i64 x.n)
 |_=> .nilp
structure Transfer where
 watch:Int
 open_:Int
 close:Int
instance:Inhabited Transfer:=⟨⟨default,default,default⟩⟩
def Transfer.cell (x:Transfer):Nat→DV
 |0=>(.int .i64 x.watch)
 |1=>(.int .i64 x.open_)
 |2=>(.int .i64 x.close)
 |_=> .nilp
structure aR where
 head:(List (Int × Int))
instance:Inhabited aR:=⟨⟨default⟩⟩
def aR.cell (x:aR):Nat→DV
 |0=> .nilp
 |_=> .nilp
structure aH where
 buses:(List Int)
 sources:(List Int)
instance:Inhabited aH:=⟨⟨default,default⟩⟩
def aH.cell (x:aH):Nat→DV
 |0=>(aQ none 1 (aB .i64) x.buses)
 |1=>(aQ none 1 (aB .i64) x.sources)
 |_=> .nilp
structure Part where
 kind:Int
 index:Int
instance:Inhabited Part:=⟨⟨default,default⟩⟩
def Part.cell (x:Part):Nat→DV
 |0=>(.int .i64 x.kind)
 |1=>(.int .i64 x.index)
 |_=> .nilp
structure dP where
 parts:(List Part)
 hours:Int
 from_:Int
 to_:Int
 people:Int
 after:(List Int)
instance:Inhabited dP:=⟨⟨default,default,default,default,default,default⟩⟩
def dP.cell (x:dP):Nat→DV
 |0=>(aQ none 2 Part.cell x.parts)
 |1=>(.int .i64 x.hours)
 |2=>(.int .i64 x.from_)
 |3=>(.int .i64 x.to_)
 |4=>(.int .i64 x.people)
 |5=>(aQ none 1 (aB .i64) x.after)
 |_=> .nilp
structure ah where
 plant:aC
 state:State
 transfers:(List Transfer)
 jobs:(List dP)
 people:Int
 redundant:Bool
instance:Inhabited ah:=⟨⟨default,default,default,default,default,default⟩⟩
def ah.cell (x:ah):Nat→DV
 |0=>(.int .i64 x.plant.buses)
 |1=>(aQ none 5 Source.cell x.plant.sources)
 |2=>(aQ none 6 Link.cell x.plant.links)
 |3=>(aQ none 4 aM.cell x.plant.racks)
 |4=>(aQ none 1 af x.state.closed)
 |5=>(aQ none 1 af x.state.locked)
 |6=>(aQ none 1 af x.state.badLink)
 |7=>(aQ none 1 af x.state.on_)
 |8=>(aQ none 1 af x.state.badSource)
 |9=>(aQ none 1 af x.state.earthed)
 |10=>(aQ none 1 af x.state.badBus)
 |11=>(aQ none 3 Transfer.cell x.transfers)
 |12=>(aQ none 6 dP.cell x.jobs)
 |13=>(.int .i64 x.people)
 |14=>(.bool x.redundant)
 |_=> .nilp
structure wX where
 plant:aC
 state:State
 transfers:(List Transfer)
 jobs:(List dP)
 people:Int
 redundant:Bool
instance:Inhabited wX:=⟨⟨default,default,default,default,default,default⟩⟩
def wX.cell (x:wX):Nat→DV
 |0=>(.int .i64 x.plant.buses)
 |1=>(aQ none 5 Source.cell x.plant.sources)
 |2=>(aQ none 6 Link.cell x.plant.links)
 |3=>(aQ none 4 aM.cell x.plant.racks)
 |4=>(aQ none 1 af x.state.closed)
 |5=>(aQ none 1 af x.state.locked)
 |6=>(aQ none 1 af x.state.badLink)
 |7=>(aQ none 1 af x.state.on_)
 |8=>(aQ none 1 af x.state.badSource)
 |9=>(aQ none 1 af x.state.earthed)
 |10=>(aQ none 1 af x.state.badBus)
 |11=>(aQ none 3 Transfer.cell x.transfers)
 |12=>(aQ none 6 dP.cell x.jobs)
 |13=>(.int .i64 x.people)
 |14=>(.bool x.redundant)
 |_=> .nilp
structure lV where
 e0:Int
 e1:Int
 e2:Int
 e3:Int
 e4:Int
instance:Inhabited lV:=⟨⟨default,default,default,default,default⟩⟩
def lV.cell (x:lV):Nat→DV
 |0=>(.int .u8 x.e0)
 |1=>(.int .u8 x.e1)
 |2=>(.int .u8 x.e2)
 |3=>(.int .u8 x.e3)
 |4=>(.int .u8 x.e4)
 |_=> .nilp
structure bJ where
 e0:Bool
 e1:Bool
instance:Inhabited bJ:=⟨⟨default,default⟩⟩
def bJ.cell (x:bJ):Nat→DV
 |0=>(.bool x.e0)
 |1=>(.bool x.e1)
 |_=> .nilp
def aH.ev (x:aH):Nat→EV
 |0=> .row 3 1 x.buses.length (av (aB .i64) x.buses)
 |1=> .row 3 1 x.sources.length (av (aB .i64) x.sources)
 |_=> .d .nilp
def aN (n:Int) (first:Int) (last:Int):Option Bool:=
 some (bif (decide (first≤n))then(decide (n≤last))else false)
def rA (p:aC):Option (Int × (List Source) × (List Link) × (List aM)):=
 some (p.buses,p.sources,p.links,p.racks)
def vF (p:aC):Option (Int × (List Source) × (List Link) × (List aM)):=
 some (p.buses,p.sources,p.links,p.racks)
def vK (p:aC):Option (Int × (List Source) × (List Link) × (List aM)):=
 some (p.buses,p.sources,p.links,p.racks)
def kW (x:Source) (x1:Int) (x11:(List Source)) (x12:(List Link)) (x13:(List aM)):Option Bool:=
 (aN x.bus 0 (IntKind.wrap .i64 (x1 - 1))).bind fun r_=>
 (bif gB [(r_,true)]then aN x.kind 1 3 else some default).bind fun r_1=>
 (bif gB [((bif r_ then r_1 else false),true)]then aN x.power 1 100000 else some default).bind fun r_2=>
 (bif gB [((bif (bif r_ then r_1 else false)then r_2 else false),true)]then aN x.sync 0 8 else some default).bind fun r_3=>
 (bif gB [((bif (bif (bif r_ then r_1 else false)then r_2 else false)then r_3 else false),true)]then aN x.ohm 10 100000 else some default).bind fun r_4=>
 some (bif (bif (bif (bif r_ then r_1 else false)then r_2 else false)then r_3 else false)then r_4 else false)
def qZ (x:Source) (x1:Int) (x11:(List Source)) (x12:(List Link)) (x13:(List aM)):Option Bool:=
 (kW x x1 x11 x12 x13).bind fun r_=>
 some (!r_)
def jU (s_:(List Source)) (f_:Int) (f_1:(List Source)) (f_2:(List Link)) (f_3:(List aM)):Int→Option (aU Int (Ex Unit Int)):=
 fun t8=>
 bif (decide (t8<(s_.length:Int)))then
 (qZ (at' s_ t8.toNat) f_ f_1 f_2 f_3).bind fun r_=>
 cu ((0:Int)≤t8∧t8<(s_.length:Int)) (
 bif r_ then
 some (.done (.ret t8))
 else
 some (.next (IntKind.wrap .i64 (t8+1))))
 else
 some (.done (.brk ()))
def lY (s_:(List Source)) (f_:Int) (f_1:(List Source)) (f_2:(List Link)) (f_3:(List aM)):Option Int:=
 Option.bind (aD (jU s_ f_ f_1 f_2 f_3) FUEL (0)) fun o=>match o with
 | .ret v=>some v
 | .brk _=>
 some (-1)
def ic (s_:(List Source)) (f_:Int) (f_1:(List Source)) (f_2:(List Link)) (f_3:(List aM)):Option Bool:=
 (lY s_ f_ f_1 f_2 f_3).bind fun r_=>
 some (decide (0≤r_))
def ql (l:(List Source)) (most:Int) (right:Int) (right1:(List Source)) (right2:(List Link)) (right3:(List aM)):Option Bool:=
 (bif gB [((decide ((l.length:Int)≤most)),true)]then ic l right right1 right2 right3 else some default).bind fun r_=>
 some (bif (decide ((l.length:Int)≤most))then(!r_)else false)
def kg (x:Link):Int→Option (aU Int (Ex Unit Bool)):=
 fun t50=>
 bif (decide (t50<(x.trip.length:Int)))then
 cu ((0:Int)≤t50∧t50<(x.trip.length:Int)) (
 (aN ((at' x.trip t50.toNat).amps) 1 1000000).bind fun r_5=>
 (bif gB [((!r_5),false)]then aN ((at' x.trip t50.toNat).millis) 1 100000 else some default).bind fun r_6=>
 cu ((gB [((decide (0<t50)),true),((bif (!r_5)then true else(!r_6)),false)]=true→(0:Int)≤(IntKind.wrap .i64 (t50 - 1))∧(IntKind.wrap .i64 (t50 - 1))<(x.trip.length:Int))∧(gB [((decide (((at' x.trip t50.toNat).amps)≤((at' x.trip ((IntKind.wrap .i64 (t50 - 1)).toNat)).amps))),false),((decide (0<t50)),true),((bif (!r_5)then true else(!r_6)),false)]=true→(0:Int)≤(IntKind.wrap .i64 (t50 - 1))∧(IntKind.wrap .i64 (t50 - 1))<(x.trip.length:Int))) (
 bif (bif (bif (!r_5)then true else(!r_6))then true else(bif (decide (0<t50))then(bif (decide (((at' x.trip t50.toNat).amps)≤((at' x.trip ((IntKind.wrap .i64 (t50 - 1)).toNat)).amps)))then true else(decide (((at' x.trip ((IntKind.wrap .i64 (t50 - 1)).toNat)).millis)≤((at' x.trip t50.toNat).millis))))else false))then
 some (.done (.ret false))
 else
 some (.next (IntKind.wrap .i64 (t50+1)))))
 else
 some (.done (.brk ()))
def nO (x:Link) (x1:Int) (x11:(List Source)) (x12:(List Link)) (x13:(List aM)):Option Bool:=
 (aN x.a 0 (IntKind.wrap .i64 (x1 - 1))).bind fun r_=>
 (bif gB [((!r_),false)]then aN x.b 0 (IntKind.wrap .i64 (x1 - 1))else some default).bind fun r_1=>
 (bif gB [((bif (bif (!r_)then true else(!r_1))then true else(decide (x.a=x.b))),false)]then aN x.kind 1 3 else some default).bind fun r_2=>
 (bif gB [((bif (bif (bif (!r_)then true else(!r_1))then true else(decide (x.a=x.b)))then true else(!r_2)),false)]then aN x.most 1 100000 else some default).bind fun r_3=>
 (bif gB [((bif (bif (bif (bif (!r_)then true else(!r_1))then true else(decide (x.a=x.b)))then true else(!r_2))then true else(!r_3)),false)]then aN x.ohm 10 100000 else some default).bind fun r_4=>
 bif (bif (bif (bif (bif (bif (!r_)then true else(!r_1))then true else(decide (x.a=x.b)))then true else(!r_2))then true else(!r_3))then true else(!r_4))then
 some false
 else
 Option.bind (aD (kg x) FUEL (0)) fun o=>match o with
 | .ret v=>some v
 | .brk _=>
 some (bif (decide ((x.trip.length:Int)≤6))then(bif (decide ((x.trip.length:Int)=0))then true else(decide (x.kind=3)))else false)
def nJ (x:Link) (x1:Int) (x11:(List Source)) (x12:(List Link)) (x13:(List aM)):Option Bool:=
 (nO x x1 x11 x12 x13).bind fun r_=>
 some (!r_)
def iP (s_:(List Link)) (f_:Int) (f_1:(List Source)) (f_2:(List Link)) (f_3:(List aM)):Int→Option (aU Int (Ex Unit Int)):=
 fun t8=>
 bif (decide (t8<(s_.length:Int)))then
 (nJ (at' s_ t8.toNat) f_ f_1 f_2 f_3).bind fun r_=>
 cu ((0:Int)≤t8∧t8<(s_.length:Int)) (
 bif r_ then
 some (.done (.ret t8))
 else
 some (.next (IntKind.wrap .i64 (t8+1))))
 else
 some (.done (.brk ()))
def jQ (s_:(List Link)) (f_:Int) (f_1:(List Source)) (f_2:(List Link)) (f_3:(List aM)):Option Int:=
 Option.bind (aD (iP s_ f_ f_1 f_2 f_3) FUEL (0)) fun o=>match o with
 | .ret v=>some v
 | .brk _=>
 some (-1)
def fw (s_:(List Link)) (f_:Int) (f_1:(List Source)) (f_2:(List Link)) (f_3:(List aM)):Option Bool:=
 (jQ s_ f_ f_1 f_2 f_3).bind fun r_=>
 some (decide (0≤r_))
def nR (l:(List Link)) (most:Int) (right:Int) (right1:(List Source)) (right2:(List Link)) (right3:(List aM)):Option Bool:=
 (bif gB [((decide ((l.length:Int)≤most)),true)]then fw l right right1 right2 right3 else some default).bind fun r_=>
 some (bif (decide ((l.length:Int)≤most))then(!r_)else false)
def oN (x:aM):Option Int:=
 bif (decide (x.feeds.e1=(-1)))then
 some 1
 else
 some 2
def nU (x:aM) (x1:Int) (x11:(List Source)) (x12:(List Link)) (x13:(List aM)):Option Bool:=
 (aN x.feeds.e0 0 (IntKind.wrap .i64 (x1 - 1))).bind fun r_=>
 (bif gB [(r_,true)]then aN x.feeds.e1 (-1) (IntKind.wrap .i64 (x1 - 1))else some default).bind fun r_1=>
 (bif gB [((bif (bif r_ then r_1 else false)then(!decide (x.feeds.e0=x.feeds.e1))else false),true)]then aN x.power 1 100000 else some default).bind fun r_2=>
 (bif gB [((bif (bif (bif r_ then r_1 else false)then(!decide (x.feeds.e0=x.feeds.e1))else false)then r_2 else false),true)]then oN x else some default).bind fun r_3=>
 (bif gB [((bif (bif (bif r_ then r_1 else false)then(!decide (x.feeds.e0=x.feeds.e1))else false)then r_2 else false),true)]then aN x.paths 0 r_3 else some default).bind fun r_4=>
 some (bif (bif (bif (bif r_ then r_1 else false)then(!decide (x.feeds.e0=x.feeds.e1))else false)then r_2 else false)then r_4 else false)
def nP (x:aM) (x1:Int) (x11:(List Source)) (x12:(List Link)) (x13:(List aM)):Option Bool:=
 (nU x x1 x11 x12 x13).bind fun r_=>
 some (!r_)
def iR (s_:(List aM)) (f_:Int) (f_1:(List Source)) (f_2:(List Link)) (f_3:(List aM)):Int→Option (aU Int (Ex Unit Int)):=
 fun t8=>
 bif (decide (t8<(s_.length:Int)))then
 (nP (⟨((at' s_ t8.toNat).feeds),(at' s_ t8.toNat).power,(at' s_ t8.toNat).paths⟩:aM) f_ f_1 f_2 f_3).bind fun r_=>
 cu ((0:Int)≤t8∧t8<(s_.length:Int)) (
 bif r_ then
 some (.done (.ret t8))
 else
 some (.next (IntKind.wrap .i64 (t8+1))))
 else
 some (.done (.brk ()))
def jZ (s_:(List aM)) (f_:Int) (f_1:(List Source)) (f_2:(List Link)) (f_3:(List aM)):Option Int:=
 Option.bind (aD (iR s_ f_ f_1 f_2 f_3) FUEL (0)) fun o=>match o with
 | .ret v=>some v
 | .brk _=>
 some (-1)
def fA (s_:(List aM)) (f_:Int) (f_1:(List Source)) (f_2:(List Link)) (f_3:(List aM)):Option Bool:=
 (jZ s_ f_ f_1 f_2 f_3).bind fun r_=>
 some (decide (0≤r_))
def nE (l:(List aM)) (most:Int) (right:Int) (right1:(List Source)) (right2:(List Link)) (right3:(List aM)):Option Bool:=
 (bif gB [((decide ((l.length:Int)≤most)),true)]then fA l right right1 right2 right3 else some default).bind fun r_=>
 some (bif (decide ((l.length:Int)≤most))then(!r_)else false)
def lK (p:aC):Option Int:=
 (aN p.buses 1 24).bind fun r_=>
 bif (!r_)then
 some 10
 else
 (rA p).bind fun r_1=>
 (ql p.sources 8 r_1.1 r_1.2.1 r_1.2.2.1 r_1.2.2.2).bind fun r_2=>
 bif (!r_2)then
 some 11
 else
 (vF p).bind fun r_3=>
 (nR p.links 40 r_3.1 r_3.2.1 r_3.2.2.1 r_3.2.2.2).bind fun r_4=>
 bif (!r_4)then
 some 12
 else
 (vK p).bind fun r_5=>
 (nE p.racks 24 r_5.1 r_5.2.1 r_5.2.2.1 r_5.2.2.2).bind fun r_6=>
 bif (!r_6)then
 some 13
 else
 some 0
def iw (p:aC) (s_:State):Int→Option (aU Int (Ex Unit Int)):=
 fun t55=>
 bif (decide (t55<([(⟨s_.closed,(p.links.length:Int)⟩:bQ),(⟨s_.locked,(p.links.length:Int)⟩:bQ),(⟨s_.badLink,(p.links.length:Int)⟩:bQ),(⟨s_.on_,(p.sources.length:Int)⟩:bQ),(⟨s_.badSource,(p.sources.length:Int)⟩:bQ),(⟨s_.earthed,p.buses⟩:bQ),(⟨s_.badBus,p.buses⟩:bQ)].length:Int)))then
 cu ((0:Int)≤t55∧t55<([(⟨s_.closed,(p.links.length:Int)⟩:bQ),(⟨s_.locked,(p.links.length:Int)⟩:bQ),(⟨s_.badLink,(p.links.length:Int)⟩:bQ),(⟨s_.on_,(p.sources.length:Int)⟩:bQ),(⟨s_.badSource,(p.sources.length:Int)⟩:bQ),(⟨s_.earthed,p.buses⟩:bQ),(⟨s_.badBus,p.buses⟩:bQ)].length:Int)) (
 bif (!decide ((((at' [(⟨s_.closed,(p.links.length:Int)⟩:bQ),(⟨s_.locked,(p.links.length:Int)⟩:bQ),(⟨s_.badLink,(p.links.length:Int)⟩:bQ),(⟨s_.on_,(p.sources.length:Int)⟩:bQ),(⟨s_.badSource,(p.sources.length:Int)⟩:bQ),(⟨s_.earthed,p.buses⟩:bQ),(⟨s_.badBus,p.buses⟩:bQ)] t55.toNat).l).length:Int)=((at' [(⟨s_.closed,(p.links.length:Int)⟩:bQ),(⟨s_.locked,(p.links.length:Int)⟩:bQ),(⟨s_.badLink,(p.links.length:Int)⟩:bQ),(⟨s_.on_,(p.sources.length:Int)⟩:bQ),(⟨s_.badSource,(p.sources.length:Int)⟩:bQ),(⟨s_.earthed,p.buses⟩:bQ),(⟨s_.badBus,p.buses⟩:bQ)] t55.toNat).n)))then
 some (.done (.ret 9))
 else
 some (.next (IntKind.wrap .i64 (t55+1))))
 else
 some (.done (.brk ()))
def ig (p:aC) (s_:State):Int→Option (aU Int (Ex Unit Int)):=
 fun t69=>
 bif (decide (t69<(p.links.length:Int)))then
 cu ((0:Int)≤t69∧t69<(p.links.length:Int)) (
 cu ((gB [((decide (((at' p.links t69.toNat).kind)=1)),true)]=true→(0:Int)≤t69∧t69<(s_.closed.length:Int))∧(gB [((!(at' s_.closed t69.toNat)),false),((decide (((at' p.links t69.toNat).kind)=1)),true)]=true→(0:Int)≤t69∧t69<(s_.locked.length:Int))) (
 bif (bif (decide (((at' p.links t69.toNat).kind)=1))then(bif (!(at' s_.closed t69.toNat))then true else(at' s_.locked t69.toNat))else false)then
 some (.done (.ret 9))
 else
 some (.next (IntKind.wrap .i64 (t69+1)))))
 else
 some (.done (.brk ()))
def dN (p:aC) (s_:State):Option Int:=
 (lK p).bind fun r_=>
 bif (!decide (r_=0))then
 some r_
 else
 Option.bind (aD (iw p s_) FUEL (0)) fun o=>match o with
 | .ret v=>some v
 | .brk _=>
 Option.bind (aD (ig p s_) FUEL (0)) fun o=>match o with
 | .ret v=>some v
 | .brk _=>
 some 0
def dW (i:Int) (x1:Int) (x11:(List Source)) (x12:(List Link)) (x13:(List aM)):Option Bool:=
 cu (gB [((bif (decide (0≤i))then(decide (i<(x12.length:Int)))else false),true)]=true→(0:Int)≤i∧i<(x12.length:Int)) (
 some (bif (bif (decide (0≤i))then(decide (i<(x12.length:Int)))else false)then(!decide (((at' x12 i.toNat).kind)=1))else false))
def fJ (x:Transfer) (x1:Int) (x11:(List Source)) (x12:(List Link)) (x13:(List aM)) (x2:Int) (x21:(List Source)) (x22:(List Link)) (x23:(List aM)):Option Bool:=
 (bif gB [((bif (decide (x.watch<0))then true else(decide (x1≤x.watch))),false)]then dW x.close x2 x21 x22 x23 else some default).bind fun r_=>
 (bif gB [((!decide (x.open_=(-1))),true),((bif (bif (decide (x.watch<0))then true else(decide (x1≤x.watch)))then true else(!r_)),false)]then dW x.open_ x2 x21 x22 x23 else some default).bind fun r_1=>
 some (bif (bif (bif (decide (x.watch<0))then true else(decide (x1≤x.watch)))then true else(!r_))then true else(bif (!decide (x.open_=(-1)))then(bif (!r_1)then true else(decide (x.open_=x.close)))else false))
def iO (s_:(List Transfer)) (f_:Int) (f_1:(List Source)) (f_2:(List Link)) (f_3:(List aM)) (f_4:Int) (f_5:(List Source)) (f_6:(List Link)) (f_7:(List aM)):Int→Option (aU Int (Ex Unit Int)):=
 fun t8=>
 bif (decide (t8<(s_.length:Int)))then
 (fJ (at' s_ t8.toNat) f_ f_1 f_2 f_3 f_4 f_5 f_6 f_7).bind fun r_=>
 cu ((0:Int)≤t8∧t8<(s_.length:Int)) (
 bif r_ then
 some (.done (.ret t8))
 else
 some (.next (IntKind.wrap .i64 (t8+1))))
 else
 some (.done (.brk ()))
def jR (s_:(List Transfer)) (f_:Int) (f_1:(List Source)) (f_2:(List Link)) (f_3:(List aM)) (f_4:Int) (f_5:(List Source)) (f_6:(List Link)) (f_7:(List aM)):Option Int:=
 Option.bind (aD (iO s_ f_ f_1 f_2 f_3 f_4 f_5 f_6 f_7) FUEL (0)) fun o=>match o with
 | .ret v=>some v
 | .brk _=>
 some (-1)
def fH (s_:(List Transfer)) (f_:Int) (f_1:(List Source)) (f_2:(List Link)) (f_3:(List aM)) (f_4:Int) (f_5:(List Source)) (f_6:(List Link)) (f_7:(List aM)):Option Bool:=
 (jR s_ f_ f_1 f_2 f_3 f_4 f_5 f_6 f_7).bind fun r_=>
 some (decide (0≤r_))
def eU (p:aC) (s_:State) (l:(List Transfer)):Option Int:=
 (dN p s_).bind fun r_=>
 bif (!decide (r_=0))then
 some r_
 else
 (bif gB [((decide (16<(l.length:Int))),false)]then fH l p.buses p.sources p.links p.racks p.buses p.sources p.links p.racks else some default).bind fun r_1=>
 bif (bif (decide (16<(l.length:Int)))then true else r_1)then
 some 1
 else
 some 0
def rR (s_:(List Bool)) (s_nn:Bool):Option (List Bool):=
 bif (!s_nn)then
 some ([]:List Bool)
 else
 cu (((([]:List Bool).length+s_.length)*1≤140737488355328)∧(([]:List Bool).length+s_.length≤4611686018427387904)) (
 some (([]:List Bool)++s_))
def aP (s:(List Bool)):Option (List Bool):=rR s true
def nT (s_:State):Option State:=
 cu ((0:Int)≤0∧0<(7:Int)) (
 (aP s_.closed).bind fun r_=>
 cu ((0:Int)≤1∧1<(7:Int)) (
 (aP s_.locked).bind fun r_1=>
 cu ((0:Int)≤2∧2<(7:Int)) (
 (aP s_.badLink).bind fun r_2=>
 cu ((0:Int)≤3∧3<(7:Int)) (
 (aP s_.on_).bind fun r_3=>
 cu ((0:Int)≤4∧4<(7:Int)) (
 (aP s_.badSource).bind fun r_4=>
 cu ((0:Int)≤5∧5<(7:Int)) (
 (aP s_.earthed).bind fun r_5=>
 cu ((0:Int)≤6∧6<(7:Int)) (
 (aP s_.badBus).bind fun r_6=>
 some (⟨r_,r_1,r_2,r_3,r_4,r_5,r_6⟩:State))))))))
def nM (p:aC) (s_:State) (l:(List Transfer)):Option ((List Transfer) × Int × (List Source) × (List Link) × (List aM) × State):=
 some (l,p.buses,p.sources,p.links,p.racks,s_)
def jv (p:aC) (s_:State):Option (Int × (List Source) × (List Link) × (List aM) × (List Bool) × (List Bool) × (List Bool) × (List Bool) × (List Bool) × (List Bool) × (List Bool)):=
 some (p.buses,p.sources,p.links,p.racks,s_.closed,s_.locked,s_.badLink,s_.on_,s_.badSource,s_.earthed,s_.badBus)
def dR (g:aR):Int→Option (aU Int (Ex Unit Int)):=
 fun x1=>
 bif (!((aS bM x1 g.head).isSome))then
 some (.done (.ret x1))
 else
 some (.next ((aS bM x1 g.head).getD 0))
def bR (g:aR) (x:Int):Option Int:=
 Option.bind (aD (dR g) FUEL (x)) fun o=>match o with
 | .ret v=>some v
 | .brk _=>none
def iV (g:aR) (a:Int) (b:Int):Option (List (Int × Int)):=
 (bR g a).bind fun r_=>
 (bR g b).bind fun r_1=>
 bif (!decide (r_=r_1))then
 some (dQ bM r_ r_1 g.head)
 else
 some g.head
def kM (x22:Int) (x221:Int) (x222:Int) (x223:Int) (x224:Int) (x225:(List mE)) (o_:aR):Option aR:=
 (iV o_ x22 x221).bind fun r_=>
 some (⟨r_⟩:aR)
def di (x12:(List Link)) (x2:(List Bool)) (x22:(List Bool)) (x26:(List Bool)):((List (Int × Int)) × Int)→Option (aU ((List (Int × Int)) × Int) (Ex (List (Int × Int)) aR)):=
 fun zz=>match zz with
 |(o0,t9)=>
 bif (decide (t9<(x12.length:Int)))then
 cu ((0:Int)≤t9∧t9<(x12.length:Int)) (
 bif (bif (bif (bif (at' x2 t9.toNat)then(!(at' x22 t9.toNat))else false)then(!(at' x26 (((at' x12 t9.toNat).a).toNat)))else false)then(!(at' x26 (((at' x12 t9.toNat).b).toNat)))else false)then
 (kM ((at' x12 t9.toNat).a) ((at' x12 t9.toNat).b) ((at' x12 t9.toNat).kind) ((at' x12 t9.toNat).most) ((at' x12 t9.toNat).ohm) ((at' x12 t9.toNat).trip) (⟨o0⟩:aR)).bind fun r_=>
 cu (((0:Int)≤t9∧t9<(x2.length:Int))∧(gB [((at' x2 t9.toNat),true)]=true→(0:Int)≤t9∧t9<(x22.length:Int))∧(gB [((bif (at' x2 t9.toNat)then(!(at' x22 t9.toNat))else false),true)]=true→(0:Int)≤(at' x12 t9.toNat).a∧(at' x12 t9.toNat).a<(x26.length:Int))∧(gB [((bif (bif (at' x2 t9.toNat)then(!(at' x22 t9.toNat))else false)then(!(at' x26 (((at' x12 t9.toNat).a).toNat)))else false),true)]=true→(0:Int)≤(at' x12 t9.toNat).b∧(at' x12 t9.toNat).b<(x26.length:Int))) (
 some (.next (r_.head,(IntKind.wrap .i64 (t9+1)))))
 else
 cu (((0:Int)≤t9∧t9<(x2.length:Int))∧(gB [((at' x2 t9.toNat),true)]=true→(0:Int)≤t9∧t9<(x22.length:Int))∧(gB [((bif (at' x2 t9.toNat)then(!(at' x22 t9.toNat))else false),true)]=true→(0:Int)≤(at' x12 t9.toNat).a∧(at' x12 t9.toNat).a<(x26.length:Int))∧(gB [((bif (bif (at' x2 t9.toNat)then(!(at' x22 t9.toNat))else false)then(!(at' x26 (((at' x12 t9.toNat).a).toNat)))else false),true)]=true→(0:Int)≤(at' x12 t9.toNat).b∧(at' x12 t9.toNat).b<(x26.length:Int))) (
 some (.next (o0,(IntKind.wrap .i64 (t9+1))))))
 else
 some (.done (.brk o0))
def kJ (x1:Int) (x11:(List Source)) (x12:(List Link)) (x13:(List aM)) (x2:(List Bool)) (x21:(List Bool)) (x22:(List Bool)) (x23:(List Bool)) (x24:(List Bool)) (x25:(List Bool)) (x26:(List Bool)) (o_:aR):Option aR:=
 Option.bind (aD (di x12 x2 x22 x26) FUEL (o_.head,0)) fun o=>match o with
 | .ret v=>some v
 | .brk o01=>
 some (⟨o01⟩:aR)
def bD (p:aC) (s_:State) (r_1:aR):((List aH) × (List (Int × Int)) × Int)→Option (aU ((List aH) × (List (Int × Int)) × Int) (Ex ((List aH) × (List (Int × Int))) (List aH))):=
 fun zz=>match zz with
 |(out,at_,t32)=>
 bif (decide (t32<p.buses))then
 cu ((0:Int)≤t32∧t32<(s_.badBus.length:Int)) (
 bif (at' s_.badBus t32.toNat)then
 some (.next (out,at_,(IntKind.wrap .i64 (t32+1))))
 else
 (bR r_1 t32).bind fun r_2=>
 bif (!((aS bM r_2 at_).isSome))then
 cu (((out.length+[(⟨([]:List Int),([]:List Int)⟩:aH)].length)*48≤140737488355328)∧(out.length+[(⟨([]:List Int),([]:List Int)⟩:aH)].length≤4611686018427387904)) (
 cu (((0:Int)≤((aS bM r_2 (dQ bM r_2 (out.length:Int) at_)).getD 0)∧((aS bM r_2 (dQ bM r_2 (out.length:Int) at_)).getD 0)<((out++[(⟨([]:List Int),([]:List Int)⟩:aH)]).length:Int))∧((((at' (out++[(⟨([]:List Int),([]:List Int)⟩:aH)]) (((aS bM r_2 (dQ bM r_2 (out.length:Int) at_)).getD 0).toNat)).buses).length+[t32].length)*8≤140737488355328)∧(((at' (out++[(⟨([]:List Int),([]:List Int)⟩:aH)]) (((aS bM r_2 (dQ bM r_2 (out.length:Int) at_)).getD 0).toNat)).buses).length+[t32].length≤4611686018427387904)) (
 some (.next (((out++[(⟨([]:List Int),([]:List Int)⟩:aH)]).set (((aS bM r_2 (dQ bM r_2 (out.length:Int) at_)).getD 0).toNat) (⟨(((at' (out++[(⟨([]:List Int),([]:List Int)⟩:aH)]) (((aS bM r_2 (dQ bM r_2 (out.length:Int) at_)).getD 0).toNat)).buses)++[t32]),(at' (out++[(⟨([]:List Int),([]:List Int)⟩:aH)]) (((aS bM r_2 (dQ bM r_2 (out.length:Int) at_)).getD 0).toNat)).sources⟩:aH)),(dQ bM r_2 (out.length:Int) at_),(IntKind.wrap .i64 (t32+1))))))
 else
 cu (((0:Int)≤((aS bM r_2 at_).getD 0)∧((aS bM r_2 at_).getD 0)<(out.length:Int))∧((((at' out (((aS bM r_2 at_).getD 0).toNat)).buses).length+[t32].length)*8≤140737488355328)∧(((at' out (((aS bM r_2 at_).getD 0).toNat)).buses).length+[t32].length≤4611686018427387904)) (
 some (.next ((out.set (((aS bM r_2 at_).getD 0).toNat) (⟨(((at' out (((aS bM r_2 at_).getD 0).toNat)).buses)++[t32]),(at' out (((aS bM r_2 at_).getD 0).toNat)).sources⟩:aH)),at_,(IntKind.wrap .i64 (t32+1))))))
 else
 some (.done (.brk (out,at_)))
def bB (p:aC) (s_:State) (r_1:aR) (at_1:(List (Int × Int))):((List aH) × Int)→Option (aU ((List aH) × Int) (Ex (List aH) (List aH))):=
 fun zz=>match zz with
 |(out2,t78)=>
 bif (decide (t78<(p.sources.length:Int)))then
 cu ((0:Int)≤t78∧t78<(p.sources.length:Int)) (
 cu (((0:Int)≤t78∧t78<(s_.on_.length:Int))∧(gB [((at' s_.on_ t78.toNat),true)]=true→(0:Int)≤t78∧t78<(s_.badSource.length:Int))∧(gB [((bif (at' s_.on_ t78.toNat)then(!(at' s_.badSource t78.toNat))else false),true)]=true→(0:Int)≤(at' p.sources t78.toNat).bus∧(at' p.sources t78.toNat).bus<(s_.badBus.length:Int))) (
 bif (bif (bif (at' s_.on_ t78.toNat)then(!(at' s_.badSource t78.toNat))else false)then(!(at' s_.badBus (((at' p.sources t78.toNat).bus).toNat)))else false)then
 (bR r_1 ((at' p.sources t78.toNat).bus)).bind fun r_3=>
 cu (((0:Int)≤((aS bM r_3 at_1).getD 0)∧((aS bM r_3 at_1).getD 0)<(out2.length:Int))∧((((at' out2 (((aS bM r_3 at_1).getD 0).toNat)).sources).length+[t78].length)*8≤140737488355328)∧(((at' out2 (((aS bM r_3 at_1).getD 0).toNat)).sources).length+[t78].length≤4611686018427387904)) (
 some (.next ((out2.set (((aS bM r_3 at_1).getD 0).toNat) (⟨(at' out2 (((aS bM r_3 at_1).getD 0).toNat)).buses,(((at' out2 (((aS bM r_3 at_1).getD 0).toNat)).sources)++[t78])⟩:aH)),(IntKind.wrap .i64 (t78+1)))))
 else
 some (.next (out2,(IntKind.wrap .i64 (t78+1))))))
 else
 some (.done (.brk out2))
def fT (p:aC) (s_:State):Option (List aH):=
 (jv p s_).bind fun r_=>
 (kJ r_.1 r_.2.1 r_.2.2.1 r_.2.2.2.1 r_.2.2.2.2.1 r_.2.2.2.2.2.1 r_.2.2.2.2.2.2.1 r_.2.2.2.2.2.2.2.1 r_.2.2.2.2.2.2.2.2.1 r_.2.2.2.2.2.2.2.2.2.1 r_.2.2.2.2.2.2.2.2.2.2 (⟨([]:(List (Int × Int)))⟩:aR)).bind fun r_1=>
 Option.bind (aD (bD p s_ r_1) FUEL (([]:List aH),([]:(List (Int × Int))),0)) fun o=>match o with
 | .ret v=>some v
 | .brk (out1,at_1)=>
 Option.bind (aD (bB p s_ r_1 at_1) FUEL (out1,0)) fun o=>match o with
 | .ret v=>some v
 | .brk out3=>
 some out3
def jI (r_1:(List aH)) (t25:Int):((List Bool) × Int)→Option (aU ((List Bool) × Int) (Ex (List Bool) (aU ((List Bool) × Int) (Ex (List Bool) ((List Bool) × Int))))):=
 fun zz=>match zz with
 |(out2,t32)=>
 bif (decide (t32<(((at' r_1 t25.toNat).buses).length:Int)))then
 cu ((0:Int)≤t32∧t32<(((at' r_1 t25.toNat).buses).length:Int)) (
 cu ((0:Int)≤(at' ((at' r_1 t25.toNat).buses) t32.toNat)∧(at' ((at' r_1 t25.toNat).buses) t32.toNat)<(out2.length:Int)) (
 some (.next ((out2.set ((at' ((at' r_1 t25.toNat).buses) t32.toNat).toNat) (decide (0<(((at' r_1 t25.toNat).sources).length:Int)))),(IntKind.wrap .i64 (t32+1))))))
 else
 some (.done (.brk out2))
def jJ (r_1:(List aH)):((List Bool) × Int)→Option (aU ((List Bool) × Int) (Ex (List Bool) ((List Bool) × Int))):=
 fun zz=>match zz with
 |(out,t25)=>
 bif (decide (t25<(r_1.length:Int)))then
 cu ((0:Int)≤t25∧t25<(r_1.length:Int)) (
 Option.bind (aD (jI r_1 t25) FUEL (out,0)) fun o=>match o with
 | .ret v=>some v
 | .brk out3=>
 some (.next (out3,(IntKind.wrap .i64 (t25+1)))))
 else
 some (.done (.brk out))
def dJ (p:aC) (s_:State):Option ((List Bool) × Int):=
 (dN p s_).bind fun r_=>
 bif (!decide (r_=0))then
 some (([]:List Bool),r_)
 else
 cu (((0:Int)≤p.buses)∧((1:Int)*p.buses≤281474976710656)∧((p.buses:Int)≤9223372036854775807)) (
 (fT p s_).bind fun r_1=>
 Option.bind (aD (jJ r_1) FUEL ((List.replicate p.buses.toNat (false:Bool)),0)) fun o=>match o with
 | .ret v=>some v
 | .brk out1=>
 some (out1,0))
def bG (x y:au):Int:=if x.e0<y.e0 then -1 else if y.e0<x.e0 then 1 else if x.e1<y.e1 then -1 else if y.e1<x.e1 then 1 else 0
def iG (s:(List au)):Option (List au):=match s with
 |[]=>some []
 |x::xs=>bif decide ((x::xs).length<4611686018427387904)then some ((x::xs).mergeSort fun x y=> !decide (bG y x<0))else none
def jr (p:aC) (r_1:(List aH)) (t24:Int) (t31:Int):((List au) × Int)→Option (aU ((List au) × Int) (Ex (List au) (aU ((List au) × Int) (Ex (List au) (aU ((List au) × Int) (Ex (List au) ((List au) × Int))))))):=
 fun zz=>match zz with
 |(out4,t42)=>
 bif (decide (t42<(((((at' r_1 t24.toNat).sources).length - ((IntKind.wrap .i64 (t31+1)).toNat)):Nat):Int)))then
 cu ((0:Int)≤t42∧t42<((((at' r_1 t24.toNat).sources).drop ((IntKind.wrap .i64 (t31+1)).toNat)).length:Int)) (
 cu (((0:Int)≤(at' ((at' r_1 t24.toNat).sources) t31.toNat)∧(at' ((at' r_1 t24.toNat).sources) t31.toNat)<(p.sources.length:Int))∧(gB [((decide (((at' p.sources ((at' ((at' r_1 t24.toNat).sources) t31.toNat).toNat)).sync)=0)),false)]=true→(0:Int)≤(at' ((at' r_1 t24.toNat).sources) t31.toNat)∧(at' ((at' r_1 t24.toNat).sources) t31.toNat)<(p.sources.length:Int))∧(gB [((decide (((at' p.sources ((at' ((at' r_1 t24.toNat).sources) t31.toNat).toNat)).sync)=0)),false)]=true→(0:Int)≤(at' (((at' r_1 t24.toNat).sources).drop ((IntKind.wrap .i64 (t31+1)).toNat)) t42.toNat)∧(at' (((at' r_1 t24.toNat).sources).drop ((IntKind.wrap .i64 (t31+1)).toNat)) t42.toNat)<(p.sources.length:Int))) (
 bif (bif (decide (((at' p.sources ((at' ((at' r_1 t24.toNat).sources) t31.toNat).toNat)).sync)=0))then true else(!decide (((at' p.sources ((at' ((at' r_1 t24.toNat).sources) t31.toNat).toNat)).sync)=((at' p.sources ((at' (((at' r_1 t24.toNat).sources).drop ((IntKind.wrap .i64 (t31+1)).toNat)) t42.toNat).toNat)).sync))))then
 cu (((out4.length+[(⟨(at' ((at' r_1 t24.toNat).sources) t31.toNat),(at' (((at' r_1 t24.toNat).sources).drop ((IntKind.wrap .i64 (t31+1)).toNat)) t42.toNat)⟩:au)].length)*16≤140737488355328)∧(out4.length+[(⟨(at' ((at' r_1 t24.toNat).sources) t31.toNat),(at' (((at' r_1 t24.toNat).sources).drop ((IntKind.wrap .i64 (t31+1)).toNat)) t42.toNat)⟩:au)].length≤4611686018427387904)) (
 some (.next ((out4++[(⟨(at' ((at' r_1 t24.toNat).sources) t31.toNat),(at' (((at' r_1 t24.toNat).sources).drop ((IntKind.wrap .i64 (t31+1)).toNat)) t42.toNat)⟩:au)]),(IntKind.wrap .i64 (t42+1)))))
 else
 some (.next (out4,(IntKind.wrap .i64 (t42+1))))))
 else
 some (.done (.brk out4))
def jy (p:aC) (r_1:(List aH)) (t24:Int):((List au) × Int)→Option (aU ((List au) × Int) (Ex (List au) (aU ((List au) × Int) (Ex (List au) ((List au) × Int))))):=
 fun zz=>match zz with
 |(out2,t31)=>
 bif (decide (t31<(((at' r_1 t24.toNat).sources).length:Int)))then
 cu ((0:Int)≤t31∧t31<(((at' r_1 t24.toNat).sources).length:Int)) (
 cu ((0:Int)≤(IntKind.wrap .i64 (t31+1))∧(IntKind.wrap .i64 (t31+1))≤(((at' r_1 t24.toNat).sources).length:Int)) (
 Option.bind (aD (jr p r_1 t24 t31) FUEL (out2,0)) fun o=>match o with
 | .ret v=>some v
 | .brk out5=>
 some (.next (out5,(IntKind.wrap .i64 (t31+1))))))
 else
 some (.done (.brk out2))
def gU (p:aC) (r_1:(List aH)):((List au) × Int)→Option (aU ((List au) × Int) (Ex (List au) ((List au) × Int))):=
 fun zz=>match zz with
 |(out,t24)=>
 bif (decide (t24<(r_1.length:Int)))then
 cu ((0:Int)≤t24∧t24<(r_1.length:Int)) (
 Option.bind (aD (jy p r_1 t24) FUEL (out,0)) fun o=>match o with
 | .ret v=>some v
 | .brk out3=>
 some (.next (out3,(IntKind.wrap .i64 (t24+1)))))
 else
 some (.done (.brk out))
def dA (p:aC) (s_:State):Option ((List au) × Int):=
 (dN p s_).bind fun r_=>
 bif (!decide (r_=0))then
 some (([]:List au),r_)
 else
 (fT p s_).bind fun r_1=>
 Option.bind (aD (gU p r_1) FUEL (([]:List au),0)) fun o=>match o with
 | .ret v=>some v
 | .brk out1=>
 (iG out1).bind fun r_2=>
 cu (out1.length=r_2.length) (
 some (r_2,0))
def nC (s_:(List au)) (v_:au):Int→Option (aU Int (Ex Unit Int)):=
 fun t8=>
 bif (decide (t8<(s_.length:Int)))then
 cu ((0:Int)≤t8∧t8<(s_.length:Int)) (
 bif ((decide (v_.e0=((at' s_ t8.toNat).e0))) && ((decide (v_.e1=((at' s_ t8.toNat).e1))) && true))then
 some (.done (.ret t8))
 else
 some (.next (IntKind.wrap .i64 (t8+1))))
 else
 some (.done (.brk ()))
def rz (s_:(List au)) (v_:au):Option Int:=
 Option.bind (aD (nC s_ v_) FUEL (0)) fun o=>match o with
 | .ret v=>some v
 | .brk _=>
 some (-1)
def ku (s_:(List au)) (v_:au):Option Bool:=
 (rz s_ v_).bind fun r_=>
 some (decide (0≤r_))
def pF (c:au) (x1:(List au)):Option Bool:=
 (ku x1 c).bind fun r_=>
 some (!r_)
def iQ (s_:(List au)) (f_:(List au)):Int→Option (aU Int (Ex Unit Int)):=
 fun t8=>
 bif (decide (t8<(s_.length:Int)))then
 (pF (at' s_ t8.toNat) f_).bind fun r_=>
 cu ((0:Int)≤t8∧t8<(s_.length:Int)) (
 bif r_ then
 some (.done (.ret t8))
 else
 some (.next (IntKind.wrap .i64 (t8+1))))
 else
 some (.done (.brk ()))
def jS (s_:(List au)) (f_:(List au)):Option Int:=
 Option.bind (aD (iQ s_ f_) FUEL (0)) fun o=>match o with
 | .ret v=>some v
 | .brk _=>
 some (-1)
def bX (s_:(List au)) (f_:(List au)):Option Bool:=
 (jS s_ f_).bind fun r_=>
 some (decide (0≤r_))
def gM (s_:State) (r_:((List Bool) × Int)) (r_2:((List Bool) × Int)):Int→Option (aU Int (Ex Unit (State × Bool))):=
 fun t103=>
 bif (decide (t103<(r_2.1.length:Int)))then
 cu (((0:Int)≤t103∧t103<(r_.1.length:Int))∧(gB [((at' r_.1 t103.toNat),true)]=true→(0:Int)≤t103∧t103<(r_2.1.length:Int))∧(gB [((bif (at' r_.1 t103.toNat)then(!(at' r_2.1 t103.toNat))else false),false)]=true→(0:Int)≤t103∧t103<(r_2.1.length:Int))∧(gB [((at' r_2.1 t103.toNat),true),((bif (at' r_.1 t103.toNat)then(!(at' r_2.1 t103.toNat))else false),false)]=true→(0:Int)≤t103∧t103<(s_.earthed.length:Int))∧(gB [((bif (at' r_2.1 t103.toNat)then(at' s_.earthed t103.toNat)else false),true),((bif (at' r_.1 t103.toNat)then(!(at' r_2.1 t103.toNat))else false),false)]=true→(0:Int)≤t103∧t103<(r_.1.length:Int))) (
 bif (bif (bif (at' r_.1 t103.toNat)then(!(at' r_2.1 t103.toNat))else false)then true else(bif (bif (at' r_2.1 t103.toNat)then(at' s_.earthed t103.toNat)else false)then(!(at' r_.1 t103.toNat))else false))then
 some (.done (.ret (s_,false)))
 else
 some (.next (IntKind.wrap .i64 (t103+1))))
 else
 some (.done (.brk ()))
def ve (s_:State) (r_:((List Bool) × Int)) (r_6:((List Bool) × Int)):Int→Option (aU Int (Ex Unit (State × Bool))):=
 fun t1031=>
 bif (decide (t1031<(r_6.1.length:Int)))then
 cu (((0:Int)≤t1031∧t1031<(r_.1.length:Int))∧(gB [((at' r_.1 t1031.toNat),true)]=true→(0:Int)≤t1031∧t1031<(r_6.1.length:Int))∧(gB [((bif (at' r_.1 t1031.toNat)then(!(at' r_6.1 t1031.toNat))else false),false)]=true→(0:Int)≤t1031∧t1031<(r_6.1.length:Int))∧(gB [((at' r_6.1 t1031.toNat),true),((bif (at' r_.1 t1031.toNat)then(!(at' r_6.1 t1031.toNat))else false),false)]=true→(0:Int)≤t1031∧t1031<(s_.earthed.length:Int))∧(gB [((bif (at' r_6.1 t1031.toNat)then(at' s_.earthed t1031.toNat)else false),true),((bif (at' r_.1 t1031.toNat)then(!(at' r_6.1 t1031.toNat))else false),false)]=true→(0:Int)≤t1031∧t1031<(r_.1.length:Int))) (
 bif (bif (bif (at' r_.1 t1031.toNat)then(!(at' r_6.1 t1031.toNat))else false)then true else(bif (bif (at' r_6.1 t1031.toNat)then(at' s_.earthed t1031.toNat)else false)then(!(at' r_.1 t1031.toNat))else false))then
 some (.done (.ret (s_,false)))
 else
 some (.next (IntKind.wrap .i64 (t1031+1))))
 else
 some (.done (.brk ()))
def lJ (p:aC) (s_:State) (x:Transfer):Option (State × Bool):=
 (dJ p s_).bind fun r_=>
 cu (((0:Int)≤x.watch∧x.watch<(s_.badBus.length:Int))∧(gB [((at' s_.badBus x.watch.toNat),false)]=true→(0:Int)≤x.watch∧x.watch<(r_.1.length:Int))∧(gB [((bif (at' s_.badBus x.watch.toNat)then true else(at' r_.1 x.watch.toNat)),false)]=true→(0:Int)≤x.close∧x.close<(s_.closed.length:Int))∧(gB [((bif (bif (at' s_.badBus x.watch.toNat)then true else(at' r_.1 x.watch.toNat))then true else(at' s_.closed x.close.toNat)),false)]=true→(0:Int)≤x.close∧x.close<(s_.badLink.length:Int))∧(gB [((bif (bif (bif (at' s_.badBus x.watch.toNat)then true else(at' r_.1 x.watch.toNat))then true else(at' s_.closed x.close.toNat))then true else(at' s_.badLink x.close.toNat)),false)]=true→(0:Int)≤x.close∧x.close<(s_.locked.length:Int))) (
 bif (bif (bif (bif (bif (at' s_.badBus x.watch.toNat)then true else(at' r_.1 x.watch.toNat))then true else(at' s_.closed x.close.toNat))then true else(at' s_.badLink x.close.toNat))then true else(at' s_.locked x.close.toNat))then
 some (s_,false)
 else
 (aP s_.closed).bind fun r_1=>
 cu ((0:Int)≤x.close∧x.close<(r_1.length:Int)) (
 bif (decide (0≤x.open_))then
 cu (((0:Int)≤x.open_∧x.open_<(s_.badLink.length:Int))∧(gB [((at' s_.badLink x.open_.toNat),false)]=true→(0:Int)≤x.open_∧x.open_<(s_.locked.length:Int))) (
 bif (bif (at' s_.badLink x.open_.toNat)then true else(at' s_.locked x.open_.toNat))then
 some (s_,false)
 else
 cu ((0:Int)≤x.open_∧x.open_<((r_1.set x.close.toNat true).length:Int)) (
 (dJ p (⟨((r_1.set x.close.toNat true).set x.open_.toNat false),s_.locked,s_.badLink,s_.on_,s_.badSource,s_.earthed,s_.badBus⟩:State)).bind fun r_2=>
 Option.bind (aD (gM s_ r_ r_2) FUEL (0)) fun o=>match o with
 | .ret v=>some v
 | .brk _=>
 (dA p s_).bind fun r_3=>
 (dA p (⟨((r_1.set x.close.toNat true).set x.open_.toNat false),s_.locked,s_.badLink,s_.on_,s_.badSource,s_.earthed,s_.badBus⟩:State)).bind fun r_4=>
 (bif gB [((!(at' r_2.1 x.watch.toNat)),false)]then bX r_4.1 r_3.1 else some default).bind fun r_5=>
 cu ((0:Int)≤x.watch∧x.watch<(r_2.1.length:Int)) (
 bif (bif (!(at' r_2.1 x.watch.toNat))then true else r_5)then
 some (s_,false)
 else
 some ((⟨((r_1.set x.close.toNat true).set x.open_.toNat false),s_.locked,s_.badLink,s_.on_,s_.badSource,s_.earthed,s_.badBus⟩:State),true))))
 else
 (dJ p (⟨(r_1.set x.close.toNat true),s_.locked,s_.badLink,s_.on_,s_.badSource,s_.earthed,s_.badBus⟩:State)).bind fun r_6=>
 Option.bind (aD (ve s_ r_ r_6) FUEL (0)) fun o=>match o with
 | .ret v=>some v
 | .brk _=>
 (dA p s_).bind fun r_7=>
 (dA p (⟨(r_1.set x.close.toNat true),s_.locked,s_.badLink,s_.on_,s_.badSource,s_.earthed,s_.badBus⟩:State)).bind fun r_8=>
 (bif gB [((!(at' r_6.1 x.watch.toNat)),false)]then bX r_8.1 r_7.1 else some default).bind fun r_9=>
 cu ((0:Int)≤x.watch∧x.watch<(r_6.1.length:Int)) (
 bif (bif (!(at' r_6.1 x.watch.toNat))then true else r_9)then
 some (s_,false)
 else
 some ((⟨(r_1.set x.close.toNat true),s_.locked,s_.badLink,s_.on_,s_.badSource,s_.earthed,s_.badBus⟩:State),true))))
def lq (x28:Int) (x29:(List Bool)) (x291:(List Bool)) (x292:(List Bool)) (x293:(List Bool)) (x294:(List Bool)) (x295:(List Bool)) (x296:(List Bool)) (state:State) (o_:(List Int)):Option (State × (List Int)):=
 cu (((o_.length+[x28].length)*8≤140737488355328)∧(o_.length+[x28].length≤4611686018427387904)) (
 some ((⟨x29,x291,x292,x293,x294,x295,x296⟩:State),(o_++[x28])))
def iW (x1:(List Transfer)) (x2:Int) (x21:(List Source)) (x22:(List Link)) (x23:(List aM)) (state:State) (o0:(List Bool)) (o01:(List Int)) (done:(List Bool)):Int→Option (aU Int (Ex Unit (aU ((List Bool) × (List Int) × (List Bool)) (Ex ((List Bool) × (List Int)) (State × State × (List Int)))))):=
 fun t15=>
 bif (decide (t15<(x1.length:Int)))then
 cu ((0:Int)≤t15∧t15<(x1.length:Int)) (
 cu ((0:Int)≤t15∧t15<(done.length:Int)) (
 bif (at' done t15.toNat)then
 some (.next (IntKind.wrap .i64 (t15+1)))
 else
 (lJ (⟨x2,x21,x22,x23⟩:aC) (⟨o0,state.locked,state.badLink,state.on_,state.badSource,state.earthed,state.badBus⟩:State) (at' x1 t15.toNat)).bind fun r_=>
 bif r_.2 then
 cu ((0:Int)≤t15∧t15<(done.length:Int)) (
 (lq t15 r_.1.closed state.locked state.badLink state.on_ state.badSource state.earthed state.badBus (⟨o0,state.locked,state.badLink,state.on_,state.badSource,state.earthed,state.badBus⟩:State) o01).bind fun r_1=>
 some (.done (.ret (.next (r_.1.closed,r_1.2,(done.set t15.toNat true))))))
 else
 some (.next (IntKind.wrap .i64 (t15+1)))))
 else
 some (.done (.brk ()))
def iX (x1:(List Transfer)) (x2:Int) (x21:(List Source)) (x22:(List Link)) (x23:(List aM)) (state:State):((List Bool) × (List Int) × (List Bool))→Option (aU ((List Bool) × (List Int) × (List Bool)) (Ex ((List Bool) × (List Int)) (State × State × (List Int)))):=
 fun zz=>match zz with
 |(o0,o01,done)=>
 Option.bind (aD (iW x1 x2 x21 x22 x23 state o0 o01 done) FUEL (0)) fun o=>match o with
 | .ret v=>some v
 | .brk _=>
 some (.done (.brk (o0,o01)))
def oq (x1:(List Transfer)) (x2:Int) (x21:(List Source)) (x22:(List Link)) (x23:(List aM)) (state:State) (state1:State) (o_:(List Int)):Option (State × State × (List Int)):=
 Option.bind (α:=Unit) (
 cu (((0:Int)≤(x1.length:Int))∧((1:Int)*(x1.length:Int)≤281474976710656)∧(((x1.length:Int):Int)≤9223372036854775807)) (
 some ())) fun _=>
 Option.bind (aD (iX x1 x2 x21 x22 x23 state) FUEL (state.closed,o_,(List.replicate ((x1.length:Int).toNat) (false:Bool)))) fun o=>match o with
 | .ret v=>some v
 | .brk (o02,o03)=>
 some ((⟨o02,state.locked,state.badLink,state.on_,state.badSource,state.earthed,state.badBus⟩:State),(⟨o02,state.locked,state.badLink,state.on_,state.badSource,state.earthed,state.badBus⟩:State),o03)
def jd (p:aC) (s_:State) (l:(List Transfer)):Option (State × (List Int) × Int):=
 (eU p s_ l).bind fun r_=>
 bif (!decide (r_=0))then
 some ((⟨([]:List Bool),([]:List Bool),([]:List Bool),([]:List Bool),([]:List Bool),([]:List Bool),([]:List Bool)⟩:State),([]:List Int),r_)
 else
 (nT s_).bind fun r_1=>
 (nM p r_1 l).bind fun r_2=>
 (oq r_2.1 r_2.2.1 r_2.2.2.1 r_2.2.2.2.1 r_2.2.2.2.2.1 r_1 r_1 ([]:List Int)).bind fun r_3=>
 some ((⟨r_3.1.closed,r_1.locked,r_1.badLink,r_1.on_,r_1.badSource,r_1.earthed,r_1.badBus⟩:State),r_3.2.2,0)
def iI (s_:(List Part)) (v_:Part):Int→Option (aU Int (Ex Unit Int)):=
 fun t8=>
 bif (decide (t8<(s_.length:Int)))then
 cu ((0:Int)≤t8∧t8<(s_.length:Int)) (
 bif ((decide (v_.kind=((at' s_ t8.toNat).kind))) && ((decide (v_.index=((at' s_ t8.toNat).index))) && true))then
 some (.done (.ret t8))
 else
 some (.next (IntKind.wrap .i64 (t8+1))))
 else
 some (.done (.brk ()))
def nN (s_:(List Part)) (v_:Part):Option Int:=
 Option.bind (aD (iI s_ v_) FUEL (0)) fun o=>match o with
 | .ret v=>some v
 | .brk _=>
 some (-1)
def fF (s_:(List Part)) (v_:Part):Option Bool:=
 (nN s_ v_).bind fun r_=>
 some (decide (0≤r_))
def rM (kz:Int) (x1:Int):Option Bool:=
 some (bif (decide (kz<0))then true else(decide (x1≤kz)))
def fo (s_:(List Int)) (f_:Int):Int→Option (aU Int (Ex Unit Int)):=
 fun t8=>
 bif (decide (t8<(s_.length:Int)))then
 (rM (at' s_ t8.toNat) f_).bind fun r_=>
 cu ((0:Int)≤t8∧t8<(s_.length:Int)) (
 bif r_ then
 some (.done (.ret t8))
 else
 some (.next (IntKind.wrap .i64 (t8+1))))
 else
 some (.done (.brk ()))
def jP (s_:(List Int)) (f_:Int):Option Int:=
 Option.bind (aD (fo s_ f_) FUEL (0)) fun o=>match o with
 | .ret v=>some v
 | .brk _=>
 some (-1)
def fe (s_:(List Int)) (f_:Int):Option Bool:=
 (jP s_ f_).bind fun r_=>
 some (decide (0≤r_))
def lX (y:ah) (i:Int):Int→Option (aU Int (Ex Unit Bool)):=
 fun t16=>
 bif (decide (t16<(((at' y.jobs i.toNat).parts).length:Int)))then
 cu ((0:Int)≤t16∧t16<(((at' y.jobs i.toNat).parts).length:Int)) (
 (fF (Au ((at' y.jobs i.toNat).parts) 0 t16.toNat) (at' ((at' y.jobs i.toNat).parts) t16.toNat)).bind fun r_=>
 cu ((0:Int)≤t16∧t16≤(((at' y.jobs i.toNat).parts).length:Int)) (
 bif r_ then
 some (.done (.ret false))
 else
 some (.next (IntKind.wrap .i64 (t16+1)))))
 else
 some (.done (.brk ()))
def qw (y:ah) (i:Int):Option Bool:=
 cu ((0:Int)≤i∧i<(y.jobs.length:Int)) (
 Option.bind (aD (lX y i) FUEL (0)) fun o=>match o with
 | .ret v=>some v
 | .brk _=>
 (bif gB [((bif (bif (bif (bif (bif (bif (bif (bif (bif (bif (decide (1≤(((at' y.jobs i.toNat).parts).length:Int)))then(decide ((((at' y.jobs i.toNat).parts).length:Int)≤8))else false)then(decide (1≤((at' y.jobs i.toNat).hours)))else false)then(decide (((at' y.jobs i.toNat).hours)≤48))else false)then(decide (0≤((at' y.jobs i.toNat).from_)))else false)then(decide (1≤((at' y.jobs i.toNat).to_)))else false)then(decide (((at' y.jobs i.toNat).to_)≤48))else false)then(decide (((at' y.jobs i.toNat).from_)≤(IntKind.wrap .i64 (((at' y.jobs i.toNat).to_) - ((at' y.jobs i.toNat).hours)))))else false)then(decide (1≤((at' y.jobs i.toNat).people)))else false)then(decide (((at' y.jobs i.toNat).people)≤20))else false)then(decide ((((at' y.jobs i.toNat).after).length:Int)≤8))else false),true)]then fe ((at' y.jobs i.toNat).after) i else some default).bind fun r_1=>
 some (bif (bif (bif (bif (bif (bif (bif (bif (bif (bif (bif (decide (1≤(((at' y.jobs i.toNat).parts).length:Int)))then(decide ((((at' y.jobs i.toNat).parts).length:Int)≤8))else false)then(decide (1≤((at' y.jobs i.toNat).hours)))else false)then(decide (((at' y.jobs i.toNat).hours)≤48))else false)then(decide (0≤((at' y.jobs i.toNat).from_)))else false)then(decide (1≤((at' y.jobs i.toNat).to_)))else false)then(decide (((at' y.jobs i.toNat).to_)≤48))else false)then(decide (((at' y.jobs i.toNat).from_)≤(IntKind.wrap .i64 (((at' y.jobs i.toNat).to_) - ((at' y.jobs i.toNat).hours)))))else false)then(decide (1≤((at' y.jobs i.toNat).people)))else false)then(decide (((at' y.jobs i.toNat).people)≤20))else false)then(decide ((((at' y.jobs i.toNat).after).length:Int)≤8))else false)then(!r_1)else false))
def nW (s_:State):Option State:=
 cu ((0:Int)≤0∧0<(7:Int)) (
 (aP s_.closed).bind fun r_=>
 cu ((0:Int)≤1∧1<(7:Int)) (
 (aP s_.locked).bind fun r_1=>
 cu ((0:Int)≤2∧2<(7:Int)) (
 (aP s_.badLink).bind fun r_2=>
 cu ((0:Int)≤3∧3<(7:Int)) (
 (aP s_.on_).bind fun r_3=>
 cu ((0:Int)≤4∧4<(7:Int)) (
 (aP s_.badSource).bind fun r_4=>
 cu ((0:Int)≤5∧5<(7:Int)) (
 (aP s_.earthed).bind fun r_5=>
 cu ((0:Int)≤6∧6<(7:Int)) (
 (aP s_.badBus).bind fun r_6=>
 some (⟨r_,r_1,r_2,r_3,r_4,r_5,r_6⟩:State))))))))
def jg (p:aC) (s_:State) (x:Part) (is:Bool):Option (State × Int):=
 (dN p s_).bind fun r_=>
 bif (!decide (r_=0))then
 some ((⟨([]:List Bool),([]:List Bool),([]:List Bool),([]:List Bool),([]:List Bool),([]:List Bool),([]:List Bool)⟩:State),r_)
 else
 (nW s_).bind fun r_1=>
 bif (bM x.kind 1)then
 (aN x.index 0 (IntKind.wrap .i64 ((r_1.badBus.length:Int) - 1))).bind fun r_2=>
 bif (!r_2)then
 some ((⟨([]:List Bool),([]:List Bool),([]:List Bool),([]:List Bool),([]:List Bool),([]:List Bool),([]:List Bool)⟩:State),14)
 else
 cu ((0:Int)≤x.index∧x.index<(r_1.badBus.length:Int)) (
 some ((⟨r_1.closed,r_1.locked,r_1.badLink,r_1.on_,r_1.badSource,r_1.earthed,(r_1.badBus.set x.index.toNat is)⟩:State),0))
 else
 bif (bM x.kind 2)then
 (aN x.index 0 (IntKind.wrap .i64 ((r_1.badSource.length:Int) - 1))).bind fun r_3=>
 bif (!r_3)then
 some ((⟨([]:List Bool),([]:List Bool),([]:List Bool),([]:List Bool),([]:List Bool),([]:List Bool),([]:List Bool)⟩:State),14)
 else
 cu ((0:Int)≤x.index∧x.index<(r_1.badSource.length:Int)) (
 some ((⟨r_1.closed,r_1.locked,r_1.badLink,r_1.on_,(r_1.badSource.set x.index.toNat is),r_1.earthed,r_1.badBus⟩:State),0))
 else
 bif (bM x.kind 3)then
 (aN x.index 0 (IntKind.wrap .i64 ((r_1.badLink.length:Int) - 1))).bind fun r_4=>
 bif (!r_4)then
 some ((⟨([]:List Bool),([]:List Bool),([]:List Bool),([]:List Bool),([]:List Bool),([]:List Bool),([]:List Bool)⟩:State),14)
 else
 cu ((0:Int)≤x.index∧x.index<(r_1.badLink.length:Int)) (
 some ((⟨r_1.closed,r_1.locked,(r_1.badLink.set x.index.toNat is),r_1.on_,r_1.badSource,r_1.earthed,r_1.badBus⟩:State),0))
 else
 (aN x.index 0 (-1)).bind fun r_5=>
 bif (!r_5)then
 some ((⟨([]:List Bool),([]:List Bool),([]:List Bool),([]:List Bool),([]:List Bool),([]:List Bool),([]:List Bool)⟩:State),14)
 else
 none
def gH (p:aC) (s_:State) (x:Part):Option (State × Int):=
 (jg p s_ x true).bind fun r_=>
 some (r_.1,r_.2)
def lU (y:ah) (t33:Int):Int→Option (aU Int (Ex Unit (aU Int (Ex Unit Int)))):=
 fun t45=>
 bif (decide (t45<(((at' y.jobs t33.toNat).parts).length:Int)))then
 cu ((0:Int)≤t45∧t45<(((at' y.jobs t33.toNat).parts).length:Int)) (
 (gH y.plant y.state (at' ((at' y.jobs t33.toNat).parts) t45.toNat)).bind fun r_2=>
 bif (!decide (r_2.2=0))then
 some (.done (.ret (.done (.ret r_2.2))))
 else
 some (.next (IntKind.wrap .i64 (t45+1))))
 else
 some (.done (.brk ()))
def lQ (y:ah):Int→Option (aU Int (Ex Unit Int)):=
 fun t33=>
 bif (decide (t33<(y.jobs.length:Int)))then
 cu ((0:Int)≤t33∧t33<(y.jobs.length:Int)) (
 (qw y t33).bind fun r_1=>
 bif (!r_1)then
 some (.done (.ret 120))
 else
 Option.bind (aD (lU y t33) FUEL (0)) fun o=>match o with
 | .ret v=>some v
 | .brk _=>
 some (.next (IntKind.wrap .i64 (t33+1))))
 else
 some (.done (.brk ()))
def dL (y:ah):Option Int:=
 (jd y.plant y.state y.transfers).bind fun r_=>
 bif (!decide (r_.2.2=0))then
 some r_.2.2
 else
 bif (decide (5<(y.jobs.length:Int)))then
 some 2
 else
 Option.bind (aD (lQ y) FUEL (0)) fun o=>match o with
 | .ret v=>some v
 | .brk _=>
 bif (bif (decide (y.people<0))then true else(decide (1000<y.people)))then
 some 1
 else
 some 0
def ru (l:(List Int)):Option (List Int):=
 cu ((l.length*8≤140737488355328)∧(l.length≤4611686018427387904)) (
 some l)
def ny (l:(List Source)):Option (List Source):=
 cu ((l.length*40≤140737488355328)∧(l.length≤4611686018427387904)) (
 some l)
def pV (l:(List mE)):Option (List mE):=
 cu ((l.length*16≤140737488355328)∧(l.length≤4611686018427387904)) (
 some l)
def nX (x:Link):Option Link:=
 (pV x.trip).bind fun r_=>
 some (⟨x.a,x.b,x.kind,x.most,x.ohm,r_⟩:Link)
def eX (l:(List Link)):((List Link) × Int)→Option (aU ((List Link) × Int) (Ex (List Link) (List Link))):=
 fun zz=>match zz with
 |(out,i)=>
 bif (decide (i<(l.length:Int)))then
 (nX (at' l i.toNat)).bind fun r_=>
 cu (((0:Int)≤i∧i<(l.length:Int))∧((out.length+[r_].length)*64≤140737488355328)∧(out.length+[r_].length≤4611686018427387904)) (
 some (.next ((out++[r_]),(IntKind.wrap .i64 (i+1)))))
 else
 some (.done (.brk out))
def pQ (l:(List Link)):Option (List Link):=
 Option.bind (aD (eX l) FUEL (([]:List Link),0)) fun o=>match o with
 | .ret v=>some v
 | .brk out1=>
 some out1
def pM (l:(List aM)):Option (List aM):=
 cu ((l.length*32≤140737488355328)∧(l.length≤4611686018427387904)) (
 some l)
def lN (x:aC):Option aC:=
 (ny x.sources).bind fun r_=>
 (pQ x.links).bind fun r_1=>
 (pM x.racks).bind fun r_2=>
 some (⟨x.buses,r_,r_1,r_2⟩:aC)
def bZ (l:(List Bool)):Option (List Bool):=
 cu ((l.length*1≤140737488355328)∧(l.length≤4611686018427387904)) (
 some l)
def lT (x:State):Option State:=
 (bZ x.closed).bind fun r_=>
 (bZ x.locked).bind fun r_1=>
 (bZ x.badLink).bind fun r_2=>
 (bZ x.on_).bind fun r_3=>
 (bZ x.badSource).bind fun r_4=>
 (bZ x.earthed).bind fun r_5=>
 (bZ x.badBus).bind fun r_6=>
 some (⟨r_,r_1,r_2,r_3,r_4,r_5,r_6⟩:State)
def pU (l:(List Part)):Option (List Part):=
 cu ((l.length*16≤140737488355328)∧(l.length≤4611686018427387904)) (
 some l)
def jb (y:wX):((List Transfer) × Int)→Option (aU ((List Transfer) × Int) (Ex (List Transfer) ah)):=
 fun zz=>match zz with
 |(x11,i)=>
 bif (decide (i<(y.transfers.length:Int)))then
 cu (((0:Int)≤i∧i<(y.transfers.length:Int))∧((x11.length+[(at' y.transfers i.toNat)].length)*24≤140737488355328)∧(x11.length+[(at' y.transfers i.toNat)].length≤4611686018427387904)) (
 some (.next ((x11++[(at' y.transfers i.toNat)]),(IntKind.wrap .i64 (i+1)))))
 else
 some (.done (.brk x11))
def jh (y:wX):((List dP) × Int)→Option (aU ((List dP) × Int) (Ex (List dP) ah)):=
 fun zz=>match zz with
 |(x12,i1)=>
 bif (decide (i1<(y.jobs.length:Int)))then
 cu ((0:Int)≤i1∧i1<(y.jobs.length:Int)) (
 (pU ((at' y.jobs i1.toNat).parts)).bind fun r_2=>
 (ru ((at' y.jobs i1.toNat).after)).bind fun r_3=>
 cu (((x12.length+[(⟨r_2,(at' y.jobs i1.toNat).hours,(at' y.jobs i1.toNat).from_,(at' y.jobs i1.toNat).to_,(at' y.jobs i1.toNat).people,r_3⟩:dP)].length)*80≤140737488355328)∧(x12.length+[(⟨r_2,(at' y.jobs i1.toNat).hours,(at' y.jobs i1.toNat).from_,(at' y.jobs i1.toNat).to_,(at' y.jobs i1.toNat).people,r_3⟩:dP)].length≤4611686018427387904)) (
 some (.next ((x12++[(⟨r_2,(at' y.jobs i1.toNat).hours,(at' y.jobs i1.toNat).from_,(at' y.jobs i1.toNat).to_,(at' y.jobs i1.toNat).people,r_3⟩:dP)]),(IntKind.wrap .i64 (i1+1))))))
 else
 some (.done (.brk x12))
def gI (y:wX):Option ah:=
 (lN y.plant).bind fun r_=>
 (lT y.state).bind fun r_1=>
 Option.bind (aD (jb y) FUEL (([]:List Transfer),0)) fun o=>match o with
 | .ret v=>some v
 | .brk x111=>
 Option.bind (aD (jh y) FUEL (([]:List dP),0)) fun o=>match o with
 | .ret v=>some v
 | .brk x121=>
 some (⟨r_,r_1,x111,x121,y.people,y.redundant⟩:ah)
def dB (s_:Int):Option Int:=
 some s_
def dm:Option lV:=
 some (⟨1,2,4,8,16⟩:lV)
def eD (s_:Int) (i:Int):Option Bool:=
 (dm).bind fun r_=>
 cu ((0:Int)≤i∧i<((5:Nat):Int)) (
 some (!decide ((IntKind.wrap .u8 (((BitVec.ofInt (IntKind.bits .u8) s_ &&& BitVec.ofInt (IntKind.bits .u8) (at' [r_.e0,r_.e1,r_.e2,r_.e3,r_.e4] i.toNat)).toNat:Int)))=0)))
def jV (x29:Int) (o_:(List (Int × Bool))) (set:Int) (bool:Bool):Option Bool:=
 (bif gB [(bool,true)]then dm else some default).bind fun r_=>
 cu (gB [(bool,true)]=true→(0:Int)≤x29∧x29<((5:Nat):Int)) (
 some (bif bool then((aS bM (IntKind.wrap .u8 (((BitVec.ofInt (IntKind.bits .u8) set &&& ~~~ BitVec.ofInt (IntKind.bits .u8) (at' [r_.e0,r_.e1,r_.e2,r_.e3,r_.e4] x29.toNat)).toNat:Int))) o_).getD false)else false))
def dS (x1:Int) (o_:(List (Int × Bool))) (set:Int):(Bool × Int)→Option (aU (Bool × Int) (Ex Bool Bool)):=
 fun zz=>match zz with
 |(o0,t4)=>
 bif (decide (t4<5))then
 (eD x1 t4).bind fun r_=>
 bif r_ then
 (jV t4 o_ set o0).bind fun r_1=>
 some (.next (r_1,(IntKind.wrap .i64 (t4+1))))
 else
 some (.next (o0,(IntKind.wrap .i64 (t4+1))))
 else
 some (.done (.brk o0))
def j6 (x1:Int) (o_:(List (Int × Bool))) (set:Int) (bool:Bool):Option Bool:=
 Option.bind (aD (dS x1 o_ set) FUEL (bool,0)) fun o=>match o with
 | .ret v=>some v
 | .brk o01=>
 some o01
def ja (x9:Int) (yard:ah) (int:Int):Option Int:=
 cu ((0:Int)≤x9∧x9<(yard.jobs.length:Int)) (
 some (IntKind.wrap .i64 (int+((at' yard.jobs x9.toNat).people))))
def cZ (x1:Int) (yard:ah):(Int × Int)→Option (aU (Int × Int) (Ex Int Int)):=
 fun zz=>match zz with
 |(o0,t4)=>
 bif (decide (t4<5))then
 (eD x1 t4).bind fun r_=>
 bif r_ then
 (ja t4 yard o0).bind fun r_1=>
 some (.next (r_1,(IntKind.wrap .i64 (t4+1))))
 else
 some (.next (o0,(IntKind.wrap .i64 (t4+1))))
 else
 some (.done (.brk o0))
def kS (x1:Int) (yard:ah) (int:Int):Option Int:=
 Option.bind (aD (cZ x1 yard) FUEL (int,0)) fun o=>match o with
 | .ret v=>some v
 | .brk o01=>
 some o01
def jC (y:ah) (s_:Int):Option Bool:=
 (dB s_).bind fun r_=>
 (kS r_ y 0).bind fun r_1=>
 some (decide (r_1≤y.people))
def mr (holds:ah) (set:Int):Option Bool:=
 (jC holds set).bind fun r_=>
 some (!r_)
def kP (x9:Int) (yard:ah) (part:(List Part)):Option (List Part):=
 cu (((0:Int)≤x9∧x9<(yard.jobs.length:Int))∧((part.length+((at' yard.jobs x9.toNat).parts).length)*16≤140737488355328)∧(part.length+((at' yard.jobs x9.toNat).parts).length≤4611686018427387904)) (
 some (part++((at' yard.jobs x9.toNat).parts)))
def dh (x1:Int) (yard:ah):((List Part) × Int)→Option (aU ((List Part) × Int) (Ex (List Part) (List Part))):=
 fun zz=>match zz with
 |(o0,t4)=>
 bif (decide (t4<5))then
 (eD x1 t4).bind fun r_=>
 bif r_ then
 (kP t4 yard o0).bind fun r_1=>
 some (.next (r_1,(IntKind.wrap .i64 (t4+1))))
 else
 some (.next (o0,(IntKind.wrap .i64 (t4+1))))
 else
 some (.done (.brk o0))
def kT (x1:Int) (yard:ah) (part:(List Part)):Option (List Part):=
 Option.bind (aD (dh x1 yard) FUEL (part,0)) fun o=>match o with
 | .ret v=>some v
 | .brk o01=>
 some o01
def fP (y:ah) (s_:Int):Option (List Part):=
 (dB s_).bind fun r_=>
 (kT r_ y ([]:List Part)).bind fun r_1=>
 some r_1
def iM (r_:(List Part)):Int→Option (aU Int (Ex Unit Bool)):=
 fun t13=>
 bif (decide (t13<(r_.length:Int)))then
 cu ((0:Int)≤t13∧t13<(r_.length:Int)) (
 (fF (Au r_ 0 t13.toNat) (at' r_ t13.toNat)).bind fun r_1=>
 cu ((0:Int)≤t13∧t13≤(r_.length:Int)) (
 bif r_1 then
 some (.done (.ret false))
 else
 some (.next (IntKind.wrap .i64 (t13+1)))))
 else
 some (.done (.brk ()))
def j4 (y:ah) (s_:Int):Option Bool:=
 (fP y s_).bind fun r_=>
 Option.bind (aD (iM r_) FUEL (0)) fun o=>match o with
 | .ret v=>some v
 | .brk _=>
 some true
def jX (holds:ah) (set:Int):Option Bool:=
 (j4 holds set).bind fun r_=>
 some (!r_)
def ji (p:aC) (parts:(List Part)):((List Bool) × (List Bool) × (List Bool) × (List Bool) × (List Bool) × (List Bool) × (List Bool) × Int)→Option (aU ((List Bool) × (List Bool) × (List Bool) × (List Bool) × (List Bool) × (List Bool) × (List Bool) × Int) (Ex ((List Bool) × (List Bool) × (List Bool) × (List Bool) × (List Bool) × (List Bool) × (List Bool)) (State × Int))):=
 fun zz=>match zz with
 |(s0,s1,s2,s3,s4,s5,s6,t26)=>
 bif (decide (t26<(parts.length:Int)))then
 cu ((0:Int)≤t26∧t26<(parts.length:Int)) (
 (gH p (⟨s0,s1,s2,s3,s4,s5,s6⟩:State) (at' parts t26.toNat)).bind fun r_1=>
 bif (!decide (r_1.2=0))then
 some (.done (.ret ((⟨([]:List Bool),([]:List Bool),([]:List Bool),([]:List Bool),([]:List Bool),([]:List Bool),([]:List Bool)⟩:State),r_1.2)))
 else
 some (.next (r_1.1.closed,r_1.1.locked,r_1.1.badLink,r_1.1.on_,r_1.1.badSource,r_1.1.earthed,r_1.1.badBus,(IntKind.wrap .i64 (t26+1)))))
 else
 some (.done (.brk (s0,s1,s2,s3,s4,s5,s6)))
def oP (p:aC) (s_:State) (l:(List Transfer)) (parts:(List Part)):Option (State × Int):=
 (eU p s_ l).bind fun r_=>
 bif (!decide (r_=0))then
 some ((⟨([]:List Bool),([]:List Bool),([]:List Bool),([]:List Bool),([]:List Bool),([]:List Bool),([]:List Bool)⟩:State),r_)
 else
 Option.bind (aD (ji p parts) FUEL (s_.closed,s_.locked,s_.badLink,s_.on_,s_.badSource,s_.earthed,s_.badBus,0)) fun o=>match o with
 | .ret v=>some v
 | .brk (s01,s11,s21,s31,s41,s51,s61)=>
 (jd p (⟨s01,s11,s21,s31,s41,s51,s61⟩:State) l).bind fun r_2=>
 some (r_2.1,r_2.2.2)
def je (p:aC) (r_:((List Bool) × Int)):((List bJ) × Int)→Option (aU ((List bJ) × Int) (Ex (List bJ) ((List bJ) × Int))):=
 fun zz=>match zz with
 |(out,t26)=>
 bif (decide (t26<(p.racks.length:Int)))then
 cu ((0:Int)≤t26∧t26<(p.racks.length:Int)) (
 cu (gB [((decide (0≤(((at' p.racks t26.toNat).feeds).e0))),true)]=true→(0:Int)≤((at' p.racks t26.toNat).feeds).e0∧((at' p.racks t26.toNat).feeds).e0<(r_.1.length:Int)) (
 cu (gB [((decide (0≤(((at' p.racks t26.toNat).feeds).e1))),true)]=true→(0:Int)≤((at' p.racks t26.toNat).feeds).e1∧((at' p.racks t26.toNat).feeds).e1<(r_.1.length:Int)) (
 cu (((out.length+[(⟨(bif (decide (0≤(((at' p.racks t26.toNat).feeds).e0)))then(at' r_.1 ((((at' p.racks t26.toNat).feeds).e0).toNat))else false),(bif (decide (0≤(((at' p.racks t26.toNat).feeds).e1)))then(at' r_.1 ((((at' p.racks t26.toNat).feeds).e1).toNat))else false)⟩:bJ)].length)*2≤140737488355328)∧(out.length+[(⟨(bif (decide (0≤(((at' p.racks t26.toNat).feeds).e0)))then(at' r_.1 ((((at' p.racks t26.toNat).feeds).e0).toNat))else false),(bif (decide (0≤(((at' p.racks t26.toNat).feeds).e1)))then(at' r_.1 ((((at' p.racks t26.toNat).feeds).e1).toNat))else false)⟩:bJ)].length≤4611686018427387904)) (
 some (.next ((out++[(⟨(bif (decide (0≤(((at' p.racks t26.toNat).feeds).e0)))then(at' r_.1 ((((at' p.racks t26.toNat).feeds).e0).toNat))else false),(bif (decide (0≤(((at' p.racks t26.toNat).feeds).e1)))then(at' r_.1 ((((at' p.racks t26.toNat).feeds).e1).toNat))else false)⟩:bJ)]),(IntKind.wrap .i64 (t26+1))))))))
 else
 some (.done (.brk out))
def sH (p:aC) (s_:State):Option ((List bJ) × Int):=
 (dJ p s_).bind fun r_=>
 bif (!decide (r_.2=0))then
 some (([]:List bJ),r_.2)
 else
 Option.bind (aD (je p r_) FUEL (([]:List bJ),0)) fun o=>match o with
 | .ret v=>some v
 | .brk out1=>
 some (out1,0)
def jF (y:ah) (least:Int) (r_1:((List bJ) × Int)):Int→Option (aU Int (Ex Unit Bool)):=
 fun t35=>
 bif (decide (t35<(y.plant.racks.length:Int)))then
 cu ((0:Int)≤t35∧t35<(y.plant.racks.length:Int)) (
 cu ((gB [((decide (least≤((at' y.plant.racks t35.toNat).paths))),true)]=true→(0:Int)≤t35∧t35<(r_1.1.length:Int))∧(gB [((bif (decide (least≤((at' y.plant.racks t35.toNat).paths)))then(!((at' r_1.1 t35.toNat).e0))else false),true)]=true→(0:Int)≤t35∧t35<(r_1.1.length:Int))) (
 bif (bif (bif (decide (least≤((at' y.plant.racks t35.toNat).paths)))then(!((at' r_1.1 t35.toNat).e0))else false)then(!((at' r_1.1 t35.toNat).e1))else false)then
 some (.done (.ret false))
 else
 some (.next (IntKind.wrap .i64 (t35+1)))))
 else
 some (.done (.brk ()))
def jH (y:ah) (parts:(List Part)) (least:Int):Option Bool:=
 (oP y.plant y.state y.transfers parts).bind fun r_=>
 (sH y.plant r_.1).bind fun r_1=>
 Option.bind (aD (jF y least r_1) FUEL (0)) fun o=>match o with
 | .ret v=>some v
 | .brk _=>
 some true
def lW (y:ah) (s_:Int):Option Bool:=
 (fP y s_).bind fun r_=>
 (jH y r_ 1).bind fun r_1=>
 some r_1
def jW (holds:ah) (set:Int):Option Bool:=
 (lW holds set).bind fun r_=>
 some (!r_)
def iZ (p:aC) (t24:Int):((List Part) × Int)→Option (aU ((List Part) × Int) (Ex (List Part) (aU ((List Part) × Int) (Ex (List Part) ((List Part) × Int))))):=
 fun zz=>match zz with
 |(out2,t30)=>
 bif (decide (t30<(at' [p.buses,(p.sources.length:Int),(p.links.length:Int)] t24.toNat)))then
 cu (((out2.length+[(⟨(IntKind.wrap .i64 (t24+1)),t30⟩:Part)].length)*16≤140737488355328)∧(out2.length+[(⟨(IntKind.wrap .i64 (t24+1)),t30⟩:Part)].length≤4611686018427387904)) (
 some (.next ((out2++[(⟨(IntKind.wrap .i64 (t24+1)),t30⟩:Part)]),(IntKind.wrap .i64 (t30+1)))))
 else
 some (.done (.brk out2))
def gL (p:aC):((List Part) × Int)→Option (aU ((List Part) × Int) (Ex (List Part) ((List Part) × Int))):=
 fun zz=>match zz with
 |(out,t24)=>
 bif (decide (t24<([p.buses,(p.sources.length:Int),(p.links.length:Int)].length:Int)))then
 cu ((0:Int)≤t24∧t24<([p.buses,(p.sources.length:Int),(p.links.length:Int)].length:Int)) (
 Option.bind (aD (iZ p t24) FUEL (out,0)) fun o=>match o with
 | .ret v=>some v
 | .brk out3=>
 some (.next (out3,(IntKind.wrap .i64 (t24+1)))))
 else
 some (.done (.brk out))
def oO (p:aC):Option ((List Part) × Int):=
 (lK p).bind fun r_=>
 bif (!decide (r_=0))then
 some (([]:List Part),r_)
 else
 Option.bind (aD (gL p) FUEL (([]:List Part),0)) fun o=>match o with
 | .ret v=>some v
 | .brk out1=>
 some (out1,0)
def fq (y:ah) (s_:Int) (r_:((List Part) × Int)):Int→Option (aU Int (Ex Unit Bool)):=
 fun t21=>
 bif (decide (t21<(r_.1.length:Int)))then
 cu ((0:Int)≤t21∧t21<(r_.1.length:Int)) (
 cu (((0:Int)≤(at' r_.1 t21.toNat).kind∧(at' r_.1 t21.toNat).kind<([([]:List Bool),y.state.badBus,y.state.badSource,y.state.badLink].length:Int))∧((0:Int)≤(at' r_.1 t21.toNat).index∧(at' r_.1 t21.toNat).index<((at' [([]:List Bool),y.state.badBus,y.state.badSource,y.state.badLink] (((at' r_.1 t21.toNat).kind).toNat)).length:Int))) (
 bif (!(at' (at' [([]:List Bool),y.state.badBus,y.state.badSource,y.state.badLink] (((at' r_.1 t21.toNat).kind).toNat)) (((at' r_.1 t21.toNat).index).toNat)))then
 (fP y s_).bind fun r_1=>
 (jH y (r_1++[(at' r_.1 t21.toNat)]) 2).bind fun r_2=>
 cu ((gB [(true,true)]=true→(r_1.length+[(at' r_.1 t21.toNat)].length)*16≤140737488355328)∧(gB [(true,true)]=true→r_1.length+[(at' r_.1 t21.toNat)].length≤4611686018427387904)) (
 bif (!r_2)then
 some (.done (.ret false))
 else
 some (.next (IntKind.wrap .i64 (t21+1))))
 else
 some (.next (IntKind.wrap .i64 (t21+1)))))
 else
 some (.done (.brk ()))
def iy (y:ah) (s_:Int):Option Bool:=
 bif (!y.redundant)then
 some true
 else
 (oO y.plant).bind fun r_=>
 Option.bind (aD (fq y s_ r_) FUEL (0)) fun o=>match o with
 | .ret v=>some v
 | .brk _=>
 some true
def jY (holds:ah) (set:Int):Option Bool:=
 (iy holds set).bind fun r_=>
 some (!r_)
def j3 (o_:ah) (o_1:ah) (o_2:ah) (o_3:ah) (set:Int):Option Int:=
 (mr o_ set).bind fun r_=>
 cu ((0:Int)≤0∧0<(4:Int)) (
 bif r_ then
 some 0
 else
 (jX o_1 set).bind fun r_1=>
 cu ((0:Int)≤1∧1<(4:Int)) (
 bif r_1 then
 some 1
 else
 (jW o_2 set).bind fun r_2=>
 cu ((0:Int)≤2∧2<(4:Int)) (
 bif r_2 then
 some 2
 else
 (jY o_3 set).bind fun r_3=>
 cu ((0:Int)≤3∧3<(4:Int)) (
 bif r_3 then
 some 3
 else
 some (-1)))))
def dH (o_:ah) (o_1:ah) (o_2:ah) (o_3:ah) (set:Int):Option Bool:=
 (j3 o_ o_1 o_2 o_3 set).bind fun r_=>
 some (decide (0≤r_))
def eF (y:ah):((List (Int × Bool)) × Int)→Option (aU ((List (Int × Bool)) × Int) (Ex (List (Int × Bool)) (List (Int × Bool)))):=
 fun zz=>match zz with
 |(out0,s0)=>
 cu ((0:Int)≤(y.jobs.length:Int)) (
 bif (decide (s0<(IntKind.wrap .u8 ((1:Int)*2 ^ min (y.jobs.length:Int).toNat (IntKind.bits .u8)))))then
 (dB s0).bind fun r_=>
 (j6 r_ out0 s0 true).bind fun r_1=>
 (bif gB [(r_1,true)]then dH y y y y s0 else some default).bind fun r_2=>
 some (.next ((dQ bM s0 (bif r_1 then(!r_2)else false) out0),(IntKind.wrap .u8 (s0+1))))
 else
 some (.done (.brk out0)))
def bY (y:ah):Option (List (Int × Bool)):=
 Option.bind (aD (eF y) FUEL ((dQ bM 0 true ([]:(List (Int × Bool)))),1)) fun o=>match o with
 | .ret v=>some v
 | .brk out01=>
 some out01
def wC (x31:Int) (o_:(List (Int × Bool))) (set:Int) (bool:Bool):Option Bool:=
 (bif gB [(bool,true)]then dm else some default).bind fun r_=>
 cu (gB [(bool,true)]=true→(0:Int)≤x31∧x31<((5:Nat):Int)) (
 some (bif bool then((aS bM (IntKind.wrap .u8 (((BitVec.ofInt (IntKind.bits .u8) set &&& ~~~ BitVec.ofInt (IntKind.bits .u8) (at' [r_.e0,r_.e1,r_.e2,r_.e3,r_.e4] x31.toNat)).toNat:Int))) o_).getD false)else false))
def vg (x1:Int) (o_:(List (Int × Bool))) (set:Int):(Bool × Int)→Option (aU (Bool × Int) (Ex Bool Bool)):=
 fun zz=>match zz with
 |(o0,t4)=>
 bif (decide (t4<5))then
 (eD x1 t4).bind fun r_=>
 bif r_ then
 (wC t4 o_ set o0).bind fun r_1=>
 some (.next (r_1,(IntKind.wrap .i64 (t4+1))))
 else
 some (.next (o0,(IntKind.wrap .i64 (t4+1))))
 else
 some (.done (.brk o0))
def kN (x1:Int) (o_:(List (Int × Bool))) (set:Int) (bool:Bool):Option Bool:=
 Option.bind (aD (vg x1 o_ set) FUEL (bool,0)) fun o=>match o with
 | .ret v=>some v
 | .brk o01=>
 some o01
def mI (x7:Int) (o_:(List Int)):Option (List Int):=
 cu (((o_.length+[x7].length)*8≤140737488355328)∧(o_.length+[x7].length≤4611686018427387904)) (
 some (o_++[x7]))
def vk (x1:Int):((List Int) × Int)→Option (aU ((List Int) × Int) (Ex (List Int) (List Int))):=
 fun zz=>match zz with
 |(o0,t4)=>
 bif (decide (t4<5))then
 (eD x1 t4).bind fun r_=>
 bif r_ then
 (mI t4 o0).bind fun r_1=>
 some (.next (r_1,(IntKind.wrap .i64 (t4+1))))
 else
 some (.next (o0,(IntKind.wrap .i64 (t4+1))))
 else
 some (.done (.brk o0))
def oV (x1:Int) (o_:(List Int)):Option (List Int):=
 Option.bind (aD (vk x1) FUEL (o_,0)) fun o=>match o with
 | .ret v=>some v
 | .brk o01=>
 some o01
def qP (seq:Int):Option (List Int):=
 (oV seq ([]:List Int)).bind fun r_=>
 some r_
def kV (seq:Int):Option (List Int):=
 (qP seq).bind fun r_=>
 some r_
def sN (x:Int):Option Bool:=
 some (!decide (x=x))
def oM (x:Int) (y:Int):Option Int:=
 (sN x).bind fun r_=>
 (sN y).bind fun r_1=>
 bif r_ then
 bif r_1 then
 some 0
 else
 some (-1)
 else
 bif r_1 then
 some 1
 else
 bif (decide (x<y))then
 some (-1)
 else
 bif (decide (y<x))then
 some 1
 else
 some 0
def fZ (s1:(List Int)) (s2:(List Int)):Int→Option (aU Int (Ex Unit Int)):=
 fun t11=>
 bif (decide (t11<(s1.length:Int)))then
 cu ((0:Int)≤t11∧t11<(s1.length:Int)) (
 bif (decide ((s2.length:Int)≤t11))then
 some (.done (.ret 1))
 else
 cu ((0:Int)≤t11∧t11<(s2.length:Int)) (
 (oM (at' s1 t11.toNat) (at' s2 t11.toNat)).bind fun r_=>
 bif (!decide (r_=0))then
 some (.done (.ret r_))
 else
 some (.next (IntKind.wrap .i64 (t11+1)))))
 else
 some (.done (.brk ()))
def oH (s1:(List Int)) (s2:(List Int)):Option Int:=
 Option.bind (aD (fZ s1 s2) FUEL (0)) fun o=>match o with
 | .ret v=>some v
 | .brk _=>
 bif (decide ((s1.length:Int)<(s2.length:Int)))then
 some (-1)
 else
 some 0
def vW (a:(List Int)) (b:(List Int)):Option Int:=
 bif (!decide ((a.length:Int)=(b.length:Int)))then
 some (IntKind.wrap .i64 ((a.length:Int) - (b.length:Int)))
 else
 (oH a b).bind fun r_=>
 some r_
def bP (s:(List (List Int))):Option (List (List Int)):=bif decide (s.length<4611686018427387904) && (decide s.Nodup && s.all fun x=>decide (x.length≤1000000))then some (s.mergeSort fun x y=> !decide (cmpL y x<0))else none
def gK (y:ah) (r_1:(List (Int × Bool))):((List (List Int)) × Int)→Option (aU ((List (List Int)) × Int) (Ex (List (List Int)) ((List (List Int)) × Int))):=
 fun zz=>match zz with
 |(out,s0)=>
 cu ((0:Int)≤(y.jobs.length:Int)) (
 bif (decide (s0<(IntKind.wrap .u8 ((1:Int)*2 ^ min (y.jobs.length:Int).toNat (IntKind.bits .u8)))))then
 (dB s0).bind fun r_2=>
 (kN r_2 r_1 s0 (!((aS bM s0 r_1).getD false))).bind fun r_3=>
 bif r_3 then
 (dB s0).bind fun r_4=>
 (kV r_4).bind fun r_5=>
 cu (((out.length+[r_5].length)*24≤140737488355328)∧(out.length+[r_5].length≤4611686018427387904)) (
 some (.next ((out++[r_5]),(IntKind.wrap .u8 (s0+1)))))
 else
 some (.next (out,(IntKind.wrap .u8 (s0+1))))
 else
 some (.done (.brk out)))
def gX (y:ah):Option ((List (List Int)) × Int):=
 (dL y).bind fun r_=>
 bif (!decide (r_=0))then
 some (([]:List (List Int)),r_)
 else
 (bY y).bind fun r_1=>
 Option.bind (aD (gK y r_1) FUEL (([]:List (List Int)),1)) fun o=>match o with
 | .ret v=>some v
 | .brk out1=>
 (bP out1).bind fun r_6=>
 cu (out1.length=r_6.length) (
 some (r_6,0))
def Bz (a:(List Int)) (b:(List Int)):Int→Option (aU Int (Ex Unit Bool)):=
 fun i=>
 bif (decide (i<(a.length:Int)))then
 cu (((0:Int)≤i∧i<(a.length:Int))∧((0:Int)≤i∧i<(b.length:Int))) (
 bif (!decide ((at' a i.toNat)=(at' b i.toNat)))then
 some (.done (.ret false))
 else
 some (.next (IntKind.wrap .i64 (i+1))))
 else
 some (.done (.brk ()))
def qJ (a:(List Int)) (b:(List Int)):Option Bool:=
 bif (!decide ((a.length:Int)=(b.length:Int)))then
 some false
 else
 Option.bind (aD (Bz a b) FUEL (0)) fun o=>match o with
 | .ret v=>some v
 | .brk _=>
 some true
def ko (a:Int) (b:Int):Option Link:=
 some (⟨a,b,3,500,10,([]:List mE)⟩:Link)
def fQ:Option wX:=
 (ko 0 2).bind fun r_=>
 (ko 1 3).bind fun r_1=>
 (ko 2 3).bind fun r_2=>
 cu (((0:Int)≤3)∧((1:Int)*3≤281474976710656)∧((3:Int)≤9223372036854775807)∧((0:Int)≤2)∧((1:Int)*2≤281474976710656)∧((2:Int)≤9223372036854775807)∧((0:Int)≤4)∧((1:Int)*4≤281474976710656)∧((4:Int)≤9223372036854775807)) (
 some (⟨(⟨4,[(⟨0,1,500,1,20⟩:Source),(⟨1,1,500,1,20⟩:Source)],[r_,r_1,r_2],[(⟨(⟨2,3⟩:au),100,2⟩:aM)]⟩:aC),(⟨[true,true,false],(List.replicate 3 (false:Bool)),(List.replicate 3 (false:Bool)),[true,true],(List.replicate 2 (false:Bool)),(List.replicate 4 (false:Bool)),(List.replicate 4 (false:Bool))⟩:State),([]:List Transfer),[(⟨[(⟨3,0⟩:Part)],2,0,10,2,([]:List Int)⟩:dP),(⟨[(⟨3,1⟩:Part)],3,0,10,2,([]:List Int)⟩:dP)],10,false⟩:wX))
def xJ (a:(List Int)) (b:(List Int)):Option Bool:=
 (qJ a b).bind fun r_=>
 some r_
def zM (a:(List (List Int))) (b:(List (List Int))):Int→Option (aU Int (Ex Unit Bool)):=
 fun i=>
 bif (decide (i<(a.length:Int)))then
 (xJ (at' a i.toNat) (at' b i.toNat)).bind fun r_=>
 cu (((0:Int)≤i∧i<(a.length:Int))∧((0:Int)≤i∧i<(b.length:Int))) (
 bif (!r_)then
 some (.done (.ret false))
 else
 some (.next (IntKind.wrap .i64 (i+1))))
 else
 some (.done (.brk ()))
def pG (a:(List (List Int))) (b:(List (List Int))):Option Bool:=
 bif (!decide ((a.length:Int)=(b.length:Int)))then
 some false
 else
 Option.bind (aD (zM a b) FUEL (0)) fun o=>match o with
 | .ret v=>some v
 | .brk _=>
 some true
def zo (x:dP) (int:Int):Option Bool:=
 some (decide (int≤(IntKind.wrap .i64 (x.from_+x.hours))))
def ug (s_:(List dP)) (int:Int):Int→Option (aU Int (Ex Unit Int)):=
 fun t8=>
 bif (decide (t8<(s_.length:Int)))then
 (zo (at' s_ t8.toNat) int).bind fun r_=>
 cu ((0:Int)≤t8∧t8<(s_.length:Int)) (
 bif r_ then
 some (.done (.ret t8))
 else
 some (.next (IntKind.wrap .i64 (t8+1))))
 else
 some (.done (.brk ()))
def ol (s_:(List dP)) (int:Int):Option Int:=
 Option.bind (aD (ug s_ int) FUEL (0)) fun o=>match o with
 | .ret v=>some v
 | .brk _=>
 some (-1)
def lF (s_:(List dP)) (int:Int):Option Bool:=
 (ol s_ int).bind fun r_=>
 some (decide (0≤r_))
def zZ (y:ah) (starts:(List Int)):(Int × Int)→Option (aU (Int × Int) (Ex Int Int)):=
 fun zz=>match zz with
 |(n,t10)=>
 bif (decide (t10<(starts.length:Int)))then
 cu ((0:Int)≤t10∧t10<(starts.length:Int)) (
 cu ((0:Int)≤t10∧t10<(y.jobs.length:Int)) (
 some (.next ((if n<(IntKind.wrap .i64 ((at' starts t10.toNat)+((at' y.jobs t10.toNat).hours)))then(IntKind.wrap .i64 ((at' starts t10.toNat)+((at' y.jobs t10.toNat).hours)))else n),(IntKind.wrap .i64 (t10+1))))))
 else
 some (.done (.brk n))
def lS (y:ah) (starts:(List Int)):Option Int:=
 Option.bind (aD (zZ y starts) FUEL (0,0)) fun o=>match o with
 | .ret v=>some v
 | .brk n1=>
 some n1
def sG (s_:(List Int)) (s_nn:Bool):Option (List Int):=
 bif (!s_nn)then
 some ([]:List Int)
 else
 cu (((([]:List Int).length+s_.length)*8≤140737488355328)∧(([]:List Int).length+s_.length≤4611686018427387904)) (
 some (([]:List Int)++s_))
def qb (s:(List Int)):Option (List Int):=sG s true
def pz (kz:Int) (x1:(List Int)) (x2:Int) (x21:(List Source)) (x22:(List Link)) (x23:(List aM)) (x24:(List Bool)) (x25:(List Bool)) (x26:(List Bool)) (x27:(List Bool)) (x28:(List Bool)) (x29:(List Bool)) (x210:(List Bool)) (x211:(List Transfer)) (x212:(List dP)) (x213:Int) (x214:Bool) (x3:Int):Option Bool:=
 cu (((0:Int)≤kz∧kz<(x1.length:Int))∧((0:Int)≤kz∧kz<(x212.length:Int))∧((0:Int)≤x3∧x3<(x1.length:Int))) (
 some (decide ((at' x1 x3.toNat)<(IntKind.wrap .i64 ((at' x1 kz.toNat)+((at' x212 kz.toNat).hours))))))
def qd (s_:(List Int)) (f_:(List Int)) (f_1:Int) (f_2:(List Source)) (f_3:(List Link)) (f_4:(List aM)) (f_5:(List Bool)) (f_6:(List Bool)) (f_7:(List Bool)) (f_8:(List Bool)) (f_9:(List Bool)) (f_10:(List Bool)) (f_11:(List Bool)) (f_12:(List Transfer)) (f_13:(List dP)) (f_14:Int) (f_15:Bool) (f_16:Int):Int→Option (aU Int (Ex Unit Int)):=
 fun t8=>
 bif (decide (t8<(s_.length:Int)))then
 (pz (at' s_ t8.toNat) f_ f_1 f_2 f_3 f_4 f_5 f_6 f_7 f_8 f_9 f_10 f_11 f_12 f_13 f_14 f_15 f_16).bind fun r_=>
 cu ((0:Int)≤t8∧t8<(s_.length:Int)) (
 bif r_ then
 some (.done (.ret t8))
 else
 some (.next (IntKind.wrap .i64 (t8+1))))
 else
 some (.done (.brk ()))
def lG (s_:(List Int)) (f_:(List Int)) (f_1:Int) (f_2:(List Source)) (f_3:(List Link)) (f_4:(List aM)) (f_5:(List Bool)) (f_6:(List Bool)) (f_7:(List Bool)) (f_8:(List Bool)) (f_9:(List Bool)) (f_10:(List Bool)) (f_11:(List Bool)) (f_12:(List Transfer)) (f_13:(List dP)) (f_14:Int) (f_15:Bool) (f_16:Int):Option Int:=
 Option.bind (aD (qd s_ f_ f_1 f_2 f_3 f_4 f_5 f_6 f_7 f_8 f_9 f_10 f_11 f_12 f_13 f_14 f_15 f_16) FUEL (0)) fun o=>match o with
 | .ret v=>some v
 | .brk _=>
 some (-1)
def kC (s_:(List Int)) (f_:(List Int)) (f_1:Int) (f_2:(List Source)) (f_3:(List Link)) (f_4:(List aM)) (f_5:(List Bool)) (f_6:(List Bool)) (f_7:(List Bool)) (f_8:(List Bool)) (f_9:(List Bool)) (f_10:(List Bool)) (f_11:(List Bool)) (f_12:(List Transfer)) (f_13:(List dP)) (f_14:Int) (f_15:Bool) (f_16:Int):Option Bool:=
 (lG s_ f_ f_1 f_2 f_3 f_4 f_5 f_6 f_7 f_8 f_9 f_10 f_11 f_12 f_13 f_14 f_15 f_16).bind fun r_=>
 some (decide (0≤r_))
def mD (y:ah) (starts:(List Int)) (i:Int):Option Bool:=
 cu ((0:Int)≤i∧i<(y.jobs.length:Int)) (
 (bif gB [((bif (decide (((at' y.jobs i.toNat).from_)≤(at' starts i.toNat)))then(decide ((at' starts i.toNat)≤(IntKind.wrap .i64 (((at' y.jobs i.toNat).to_) - ((at' y.jobs i.toNat).hours)))))else false),true)]then kC ((at' y.jobs i.toNat).after) starts y.plant.buses y.plant.sources y.plant.links y.plant.racks y.state.closed y.state.locked y.state.badLink y.state.on_ y.state.badSource y.state.earthed y.state.badBus y.transfers y.jobs y.people y.redundant i else some default).bind fun r_=>
 cu (((0:Int)≤i∧i<(starts.length:Int))∧(gB [((decide (((at' y.jobs i.toNat).from_)≤(at' starts i.toNat))),true)]=true→(0:Int)≤i∧i<(starts.length:Int))) (
 some (bif (bif (decide (((at' y.jobs i.toNat).from_)≤(at' starts i.toNat)))then(decide ((at' starts i.toNat)≤(IntKind.wrap .i64 (((at' y.jobs i.toNat).to_) - ((at' y.jobs i.toNat).hours)))))else false)then(!r_)else false)))
def CQ (o_:(List Int)) (yard:ah) (o02:(List (Int × Bool))) (o06:(List Int)) (at_:Int):(Bool × Int)→Option (aU (Bool × Int) (Ex Bool (aU ((List Int) × Int × (List Int) × (List (Int × Bool)) × (List Int) × Int) (Ex ((List Int) × Int × (List Int) × (List (Int × Bool)) × (List Int)) ((List Int) × Int × (List Int) × (List (Int × Bool)) × (List Int)))))):=
 fun zz=>match zz with
 |(fits,h_)=>
 bif (bif (decide (h_<(IntKind.wrap .i64 (at_+((at' yard.jobs ((o_.length:Int).toNat)).hours)))))then fits else false)then
 (dm).bind fun r_4=>
 cu (((0:Int)≤h_∧h_<(48:Nat))∧(h_.toNat<o06.length)∧((0:Int)≤(o_.length:Int)∧(o_.length:Int)<((5:Nat):Int))) (
 some (.next (((aS bM (IntKind.wrap .u8 (((BitVec.ofInt (IntKind.bits .u8) (at' o06 h_.toNat)|||BitVec.ofInt (IntKind.bits .u8) (at' [r_4.e0,r_4.e1,r_4.e2,r_4.e3,r_4.e4] ((o_.length:Int).toNat))).toNat:Int))) o02).getD false),(IntKind.wrap .i64 (h_+1)))))
 else
 some (.done (.brk fits))
def CS (o_:(List Int)) (yard:ah) (at_:Int):((List Int) × Int)→Option (aU ((List Int) × Int) (Ex (List Int) (aU ((List Int) × Int × (List Int) × (List (Int × Bool)) × (List Int) × Int) (Ex ((List Int) × Int × (List Int) × (List (Int × Bool)) × (List Int)) ((List Int) × Int × (List Int) × (List (Int × Bool)) × (List Int)))))):=
 fun zz=>match zz with
 |(o062,h_1)=>
 bif (decide (h_1<(IntKind.wrap .i64 (at_+((at' yard.jobs ((o_.length:Int).toNat)).hours)))))then
 (dm).bind fun r_5=>
 cu (((0:Int)≤h_1∧h_1<(48:Nat))∧(h_1.toNat<o062.length)∧((0:Int)≤(o_.length:Int)∧(o_.length:Int)<((5:Nat):Int))) (
 some (.next ((o062.set h_1.toNat (IntKind.wrap .u8 (((BitVec.ofInt (IntKind.bits .u8) (at' o062 h_1.toNat)|||BitVec.ofInt (IntKind.bits .u8) (at' [r_5.e0,r_5.e1,r_5.e2,r_5.e3,r_5.e4] ((o_.length:Int).toNat))).toNat:Int)))),(IntKind.wrap .i64 (h_1+1)))))
 else
 some (.done (.brk o062))
def CW (o_:(List Int)) (yard:ah) (at_:Int):((List Int) × Int)→Option (aU ((List Int) × Int) (Ex (List Int) (aU ((List Int) × Int × (List Int) × (List (Int × Bool)) × (List Int) × Int) (Ex ((List Int) × Int × (List Int) × (List (Int × Bool)) × (List Int)) ((List Int) × Int × (List Int) × (List (Int × Bool)) × (List Int)))))):=
 fun zz=>match zz with
 |(o064,h_2)=>
 bif (decide (h_2<(IntKind.wrap .i64 (at_+((at' yard.jobs ((o_.length:Int).toNat)).hours)))))then
 (dm).bind fun r_7=>
 cu (((0:Int)≤h_2∧h_2<(48:Nat))∧(h_2.toNat<o064.length)∧((0:Int)≤(o_.length:Int)∧(o_.length:Int)<((5:Nat):Int))) (
 some (.next ((o064.set h_2.toNat (IntKind.wrap .u8 (((BitVec.ofInt (IntKind.bits .u8) (at' o064 h_2.toNat) &&& ~~~ BitVec.ofInt (IntKind.bits .u8) (at' [r_7.e0,r_7.e1,r_7.e2,r_7.e3,r_7.e4] ((o_.length:Int).toNat))).toNat:Int)))),(IntKind.wrap .i64 (h_2+1)))))
 else
 some (.done (.brk o064))
def Cu (rec:(List Int)→ah→Int→(List Int)→(List (Int × Bool))→(List Int)→Option ((List Int) × Int × (List Int) × (List (Int × Bool)) × (List Int))) (o_:(List Int)) (yard:ah):((List Int) × Int × (List Int) × (List (Int × Bool)) × (List Int) × Int)→Option (aU ((List Int) × Int × (List Int) × (List (Int × Bool)) × (List Int) × Int) (Ex ((List Int) × Int × (List Int) × (List (Int × Bool)) × (List Int)) ((List Int) × Int × (List Int) × (List (Int × Bool)) × (List Int)))):=
 fun zz=>match zz with
 |(o0,o000,o01,o02,o06,at_)=>
 bif (bif (decide (at_≤(IntKind.wrap .i64 (((at' yard.jobs ((o_.length:Int).toNat)).to_) - ((at' yard.jobs ((o_.length:Int).toNat)).hours)))))then(decide ((IntKind.wrap .i64 (at_+((at' yard.jobs ((o_.length:Int).toNat)).hours)))<o000))else false)then
 cu (((o0.length+[at_].length)*8≤140737488355328)∧(o0.length+[at_].length≤4611686018427387904)) (
 (mD yard (o0++[at_]) (o_.length:Int)).bind fun r_3=>
 Option.bind (aD (CQ o_ yard o02 o06 at_) FUEL (r_3,at_)) fun o=>match o with
 | .ret v=>some v
 | .brk fits1=>
 bif fits1 then
 Option.bind (aD (CS o_ yard at_) FUEL (o06,at_)) fun o=>match o with
 | .ret v=>some v
 | .brk o063=>
 (rec (o0++[at_]) yard o000 o01 o02 o063).bind fun r_6=>
 Option.bind (aD (CW o_ yard at_) FUEL (r_6.2.2.2.2,at_)) fun o=>match o with
 | .ret v=>some v
 | .brk o065=>
 cu ((0:Int)≤(o_.length:Int)∧(o_.length:Int)≤(r_6.1.length:Int)) (
 some (.next ((r_6.1.take ((o_.length:Int).toNat)),r_6.2.1,r_6.2.2.1,r_6.2.2.2.1,o065,(IntKind.wrap .i64 (at_+1)))))
 else
 cu ((0:Int)≤(o_.length:Int)∧(o_.length:Int)≤((o0++[at_]).length:Int)) (
 some (.next (((o0++[at_]).take ((o_.length:Int).toNat)),o000,o01,o02,o06,(IntKind.wrap .i64 (at_+1))))))
 else
 some (.done (.brk (o0,o000,o01,o02,o06)))
def qU (rec:(List Int)→ah→Int→(List Int)→(List (Int × Bool))→(List Int)→Option ((List Int) × Int × (List Int) × (List (Int × Bool)) × (List Int))) (o_:(List Int)) (yard:ah) (int:Int) (o_1:(List Int)) (o_2:(List (Int × Bool))) (l:(List Int)):Option ((List Int) × Int × (List Int) × (List (Int × Bool)) × (List Int)):=
 (lF (yard.jobs.drop ((o_.length:Int).toNat)) int).bind fun r_=>
 cu ((0:Int)≤(o_.length:Int)∧(o_.length:Int)≤(yard.jobs.length:Int)) (
 bif r_ then
 some (o_,int,o_1,o_2,l)
 else
 bif (decide ((o_.length:Int)=(yard.jobs.length:Int)))then
 (lS yard o_).bind fun r_1=>
 bif (decide (r_1<int))then
 (qb o_).bind fun r_2=>
 some (o_,r_1,r_2,o_2,l)
 else
 some (o_,int,o_1,o_2,l)
 else
 cu ((0:Int)≤(o_.length:Int)∧(o_.length:Int)<(yard.jobs.length:Int)) (
 Option.bind (aD (Cu rec o_ yard) FUEL (o_,int,o_1,o_2,l,(at' yard.jobs ((o_.length:Int).toNat)).from_)) fun o=>match o with
 | .ret v=>some v
 | .brk (o03,o0001,o04,o05,o061)=>
 some (o03,o0001,o04,o05,o061)))
def oL:Nat→(List Int)→ah→Int→(List Int)→(List (Int × Bool))→(List Int)→Option ((List Int) × Int × (List Int) × (List (Int × Bool)) × (List Int))
 |0,_,_,_,_,_,_=>none
 |n+1,o_,yard,int,o_1,o_2,l=>qU (oL n) o_ yard int o_1 o_2 l
def Ev (y:ah) (r_1:(List (Int × Bool))):Int→Option (aU Int (Ex Unit ((List Int) × Int))):=
 fun t23=>
 bif (decide (t23<(y.jobs.length:Int)))then
 (dm).bind fun r_2=>
 cu ((0:Int)≤t23∧t23<((5:Nat):Int)) (
 bif (!((aS bM (at' [r_2.e0,r_2.e1,r_2.e2,r_2.e3,r_2.e4] t23.toNat) r_1).getD false))then
 some (.done (.ret (([]:List Int),4)))
 else
 some (.next (IntKind.wrap .i64 (t23+1))))
 else
 some (.done (.brk ()))
def oW (y:ah):Option ((List Int) × Int):=
 (dL y).bind fun r_=>
 bif (!decide (r_=0))then
 some (([]:List Int),r_)
 else
 (bY y).bind fun r_1=>
 Option.bind (aD (Ev y r_1) FUEL (0)) fun o=>match o with
 | .ret v=>some v
 | .brk _=>
 (oL FUEL ([]:List Int) y 49 ([]:List Int) r_1 (List.replicate 48 (0:Int))).bind fun r_3=>
 bif (decide (48<r_3.2.1))then
 some (([]:List Int),4)
 else
 some (r_3.2.2.1,0)
def vU (y:ah) (starts:(List Int)) (h_:Int):(Int × Int)→Option (aU (Int × Int) (Ex Int Int)):=
 fun zz=>match zz with
 |(s_,t12)=>
 bif (decide (t12<(starts.length:Int)))then
 cu ((0:Int)≤t12∧t12<(starts.length:Int)) (
 cu (gB [((decide ((at' starts t12.toNat)≤h_)),true)]=true→(0:Int)≤t12∧t12<(y.jobs.length:Int)) (
 bif (bif (decide ((at' starts t12.toNat)≤h_))then(decide (h_<(IntKind.wrap .i64 ((at' starts t12.toNat)+((at' y.jobs t12.toNat).hours)))))else false)then
 (dm).bind fun r_=>
 cu ((0:Int)≤t12∧t12<((5:Nat):Int)) (
 some (.next ((IntKind.wrap .u8 (((BitVec.ofInt (IntKind.bits .u8) s_|||BitVec.ofInt (IntKind.bits .u8) (at' [r_.e0,r_.e1,r_.e2,r_.e3,r_.e4] t12.toNat)).toNat:Int))),(IntKind.wrap .i64 (t12+1)))))
 else
 some (.next (s_,(IntKind.wrap .i64 (t12+1))))))
 else
 some (.done (.brk s_))
def p8 (y:ah) (starts:(List Int)) (h_:Int):Option Int:=
 Option.bind (aD (vU y starts h_) FUEL (0,0)) fun o=>match o with
 | .ret v=>some v
 | .brk s_1=>
 some s_1
def Cv (y:ah) (starts:(List Int)):Int→Option (aU Int (Ex Unit (Int × Int))):=
 fun t23=>
 bif (decide (t23<(starts.length:Int)))then
 (mD y starts t23).bind fun r_1=>
 bif (!r_1)then
 some (.done (.ret (0,60)))
 else
 some (.next (IntKind.wrap .i64 (t23+1)))
 else
 some (.done (.brk ()))
def CG (y:ah) (starts:(List Int)) (r_2:(List (Int × Bool))) (r_3:Int):Int→Option (aU Int (Ex Unit (Int × Int))):=
 fun t37=>
 bif (decide (t37<r_3))then
 (p8 y starts t37).bind fun r_4=>
 bif (!((aS bM r_4 r_2).getD false))then
 some (.done (.ret (t37,120)))
 else
 some (.next (IntKind.wrap .i64 (t37+1)))
 else
 some (.done (.brk ()))
def tQ (y:ah) (starts:(List Int)):Option (Int × Int):=
 (dL y).bind fun r_=>
 bif (!decide (r_=0))then
 some (0,r_)
 else
 bif (!decide ((starts.length:Int)=(y.jobs.length:Int)))then
 some (0,1)
 else
 Option.bind (aD (Cv y starts) FUEL (0)) fun o=>match o with
 | .ret v=>some v
 | .brk _=>
 (bY y).bind fun r_2=>
 (lS y starts).bind fun r_3=>
 Option.bind (aD (CG y starts r_2 r_3) FUEL (0)) fun o=>match o with
 | .ret v=>some v
 | .brk _=>
 (lS y starts).bind fun r_5=>
 some (r_5,0)
def eY (y:ah) (jobs:(List Int)):(Int × Int)→Option (aU (Int × Int) (Ex Int (Bool × Int))):=
 fun zz=>match zz with
 |(s_,t17)=>
 bif (decide (t17<(jobs.length:Int)))then
 cu ((0:Int)≤t17∧t17<(jobs.length:Int)) (
 (bif gB [((bif (decide ((at' jobs t17.toNat)<0))then true else(decide ((y.jobs.length:Int)≤(at' jobs t17.toNat)))),false)]then eD s_ (at' jobs t17.toNat)else some default).bind fun r_1=>
 bif (bif (bif (decide ((at' jobs t17.toNat)<0))then true else(decide ((y.jobs.length:Int)≤(at' jobs t17.toNat))))then true else r_1)then
 some (.done (.ret (false,1)))
 else
 (dm).bind fun r_2=>
 cu ((0:Int)≤(at' jobs t17.toNat)∧(at' jobs t17.toNat)<((5:Nat):Int)) (
 some (.next ((IntKind.wrap .u8 (((BitVec.ofInt (IntKind.bits .u8) s_|||BitVec.ofInt (IntKind.bits .u8) (at' [r_2.e0,r_2.e1,r_2.e2,r_2.e3,r_2.e4] ((at' jobs t17.toNat).toNat))).toNat:Int))),(IntKind.wrap .i64 (t17+1))))))
 else
 some (.done (.brk s_))
def eG (y:ah) (jobs:(List Int)):Option (Bool × Int):=
 (dL y).bind fun r_=>
 bif (!decide (r_=0))then
 some (false,r_)
 else
 Option.bind (aD (eY y jobs) FUEL (0,0)) fun o=>match o with
 | .ret v=>some v
 | .brk s_1=>
 (bY y).bind fun r_3=>
 some (((aS bM s_1 r_3).getD false),0)
def jM:Option Bool:=
 (fQ).bind fun r_=>
 (gI r_).bind fun r_1=>
 (eG r_1 [0,1]).bind fun r_2=>
 (oW r_1).bind fun r_3=>
 (gX r_1).bind fun r_4=>
 (tQ r_1 [0,2]).bind fun r_5=>
 bif (bif (bif (bif (bif (bif r_2.1 then true else(!decide (r_2.2=0)))then true else(!decide (r_3.2=0)))then true else(!decide (r_4.2=0)))then true else(!decide (r_5.2=0)))then true else(!decide (r_5.1=5)))then
 some false
 else
 (qJ r_3.1 [0,2]).bind fun r_6=>
 bif (!r_6)then
 some false
 else
 (pG r_4.1 [[0,1]]).bind fun r_7=>
 bif (!r_7)then
 some false
 else
 (oW (⟨r_1.plant,r_1.state,r_1.transfers,r_1.jobs,r_1.people,true⟩:ah)).bind fun r_8=>
 (gX (⟨r_1.plant,r_1.state,r_1.transfers,r_1.jobs,r_1.people,true⟩:ah)).bind fun r_9=>
 bif (bif (!decide (r_8.2=4))then true else(!decide (r_9.2=0)))then
 some false
 else
 (pG r_9.1 [[0],[1]]).bind fun r_10=>
 bif (!r_10)then
 some false
 else
 (fQ).bind fun r_11=>
 (gI r_11).bind fun r_12=>
 bif (!decide ((r_12.jobs.length:Int)=2))then
 some false
 else
 cu (((0:Int)≤0∧0<(r_12.jobs.length:Int))∧((0:Int)≤1∧1<(r_12.jobs.length:Int))) (
 (oW (⟨r_12.plant,r_12.state,r_12.transfers,(((r_12.jobs.set 0 (⟨(at' r_12.jobs 0).parts,(at' r_12.jobs 0).hours,(at' r_12.jobs 0).from_,4,(at' r_12.jobs 0).people,(at' r_12.jobs 0).after⟩:dP)).set 1 (⟨(at' (r_12.jobs.set 0 (⟨(at' r_12.jobs 0).parts,(at' r_12.jobs 0).hours,(at' r_12.jobs 0).from_,4,(at' r_12.jobs 0).people,(at' r_12.jobs 0).after⟩:dP)) 1).parts,(at' (r_12.jobs.set 0 (⟨(at' r_12.jobs 0).parts,(at' r_12.jobs 0).hours,(at' r_12.jobs 0).from_,4,(at' r_12.jobs 0).people,(at' r_12.jobs 0).after⟩:dP)) 1).hours,(at' (r_12.jobs.set 0 (⟨(at' r_12.jobs 0).parts,(at' r_12.jobs 0).hours,(at' r_12.jobs 0).from_,4,(at' r_12.jobs 0).people,(at' r_12.jobs 0).after⟩:dP)) 1).from_,4,(at' (r_12.jobs.set 0 (⟨(at' r_12.jobs 0).parts,(at' r_12.jobs 0).hours,(at' r_12.jobs 0).from_,4,(at' r_12.jobs 0).people,(at' r_12.jobs 0).after⟩:dP)) 1).people,(at' (r_12.jobs.set 0 (⟨(at' r_12.jobs 0).parts,(at' r_12.jobs 0).hours,(at' r_12.jobs 0).from_,4,(at' r_12.jobs 0).people,(at' r_12.jobs 0).after⟩:dP)) 1).after⟩:dP)).set 1 (⟨(at' ((r_12.jobs.set 0 (⟨(at' r_12.jobs 0).parts,(at' r_12.jobs 0).hours,(at' r_12.jobs 0).from_,4,(at' r_12.jobs 0).people,(at' r_12.jobs 0).after⟩:dP)).set 1 (⟨(at' (r_12.jobs.set 0 (⟨(at' r_12.jobs 0).parts,(at' r_12.jobs 0).hours,(at' r_12.jobs 0).from_,4,(at' r_12.jobs 0).people,(at' r_12.jobs 0).after⟩:dP)) 1).parts,(at' (r_12.jobs.set 0 (⟨(at' r_12.jobs 0).parts,(at' r_12.jobs 0).hours,(at' r_12.jobs 0).from_,4,(at' r_12.jobs 0).people,(at' r_12.jobs 0).after⟩:dP)) 1).hours,(at' (r_12.jobs.set 0 (⟨(at' r_12.jobs 0).parts,(at' r_12.jobs 0).hours,(at' r_12.jobs 0).from_,4,(at' r_12.jobs 0).people,(at' r_12.jobs 0).after⟩:dP)) 1).from_,4,(at' (r_12.jobs.set 0 (⟨(at' r_12.jobs 0).parts,(at' r_12.jobs 0).hours,(at' r_12.jobs 0).from_,4,(at' r_12.jobs 0).people,(at' r_12.jobs 0).after⟩:dP)) 1).people,(at' (r_12.jobs.set 0 (⟨(at' r_12.jobs 0).parts,(at' r_12.jobs 0).hours,(at' r_12.jobs 0).from_,4,(at' r_12.jobs 0).people,(at' r_12.jobs 0).after⟩:dP)) 1).after⟩:dP)) 1).parts,(at' ((r_12.jobs.set 0 (⟨(at' r_12.jobs 0).parts,(at' r_12.jobs 0).hours,(at' r_12.jobs 0).from_,4,(at' r_12.jobs 0).people,(at' r_12.jobs 0).after⟩:dP)).set 1 (⟨(at' (r_12.jobs.set 0 (⟨(at' r_12.jobs 0).parts,(at' r_12.jobs 0).hours,(at' r_12.jobs 0).from_,4,(at' r_12.jobs 0).people,(at' r_12.jobs 0).after⟩:dP)) 1).parts,(at' (r_12.jobs.set 0 (⟨(at' r_12.jobs 0).parts,(at' r_12.jobs 0).hours,(at' r_12.jobs 0).from_,4,(at' r_12.jobs 0).people,(at' r_12.jobs 0).after⟩:dP)) 1).hours,(at' (r_12.jobs.set 0 (⟨(at' r_12.jobs 0).parts,(at' r_12.jobs 0).hours,(at' r_12.jobs 0).from_,4,(at' r_12.jobs 0).people,(at' r_12.jobs 0).after⟩:dP)) 1).from_,4,(at' (r_12.jobs.set 0 (⟨(at' r_12.jobs 0).parts,(at' r_12.jobs 0).hours,(at' r_12.jobs 0).from_,4,(at' r_12.jobs 0).people,(at' r_12.jobs 0).after⟩:dP)) 1).people,(at' (r_12.jobs.set 0 (⟨(at' r_12.jobs 0).parts,(at' r_12.jobs 0).hours,(at' r_12.jobs 0).from_,4,(at' r_12.jobs 0).people,(at' r_12.jobs 0).after⟩:dP)) 1).after⟩:dP)) 1).hours,(at' ((r_12.jobs.set 0 (⟨(at' r_12.jobs 0).parts,(at' r_12.jobs 0).hours,(at' r_12.jobs 0).from_,4,(at' r_12.jobs 0).people,(at' r_12.jobs 0).after⟩:dP)).set 1 (⟨(at' (r_12.jobs.set 0 (⟨(at' r_12.jobs 0).parts,(at' r_12.jobs 0).hours,(at' r_12.jobs 0).from_,4,(at' r_12.jobs 0).people,(at' r_12.jobs 0).after⟩:dP)) 1).parts,(at' (r_12.jobs.set 0 (⟨(at' r_12.jobs 0).parts,(at' r_12.jobs 0).hours,(at' r_12.jobs 0).from_,4,(at' r_12.jobs 0).people,(at' r_12.jobs 0).after⟩:dP)) 1).hours,(at' (r_12.jobs.set 0 (⟨(at' r_12.jobs 0).parts,(at' r_12.jobs 0).hours,(at' r_12.jobs 0).from_,4,(at' r_12.jobs 0).people,(at' r_12.jobs 0).after⟩:dP)) 1).from_,4,(at' (r_12.jobs.set 0 (⟨(at' r_12.jobs 0).parts,(at' r_12.jobs 0).hours,(at' r_12.jobs 0).from_,4,(at' r_12.jobs 0).people,(at' r_12.jobs 0).after⟩:dP)) 1).people,(at' (r_12.jobs.set 0 (⟨(at' r_12.jobs 0).parts,(at' r_12.jobs 0).hours,(at' r_12.jobs 0).from_,4,(at' r_12.jobs 0).people,(at' r_12.jobs 0).after⟩:dP)) 1).after⟩:dP)) 1).from_,(at' ((r_12.jobs.set 0 (⟨(at' r_12.jobs 0).parts,(at' r_12.jobs 0).hours,(at' r_12.jobs 0).from_,4,(at' r_12.jobs 0).people,(at' r_12.jobs 0).after⟩:dP)).set 1 (⟨(at' (r_12.jobs.set 0 (⟨(at' r_12.jobs 0).parts,(at' r_12.jobs 0).hours,(at' r_12.jobs 0).from_,4,(at' r_12.jobs 0).people,(at' r_12.jobs 0).after⟩:dP)) 1).parts,(at' (r_12.jobs.set 0 (⟨(at' r_12.jobs 0).parts,(at' r_12.jobs 0).hours,(at' r_12.jobs 0).from_,4,(at' r_12.jobs 0).people,(at' r_12.jobs 0).after⟩:dP)) 1).hours,(at' (r_12.jobs.set 0 (⟨(at' r_12.jobs 0).parts,(at' r_12.jobs 0).hours,(at' r_12.jobs 0).from_,4,(at' r_12.jobs 0).people,(at' r_12.jobs 0).after⟩:dP)) 1).from_,4,(at' (r_12.jobs.set 0 (⟨(at' r_12.jobs 0).parts,(at' r_12.jobs 0).hours,(at' r_12.jobs 0).from_,4,(at' r_12.jobs 0).people,(at' r_12.jobs 0).after⟩:dP)) 1).people,(at' (r_12.jobs.set 0 (⟨(at' r_12.jobs 0).parts,(at' r_12.jobs 0).hours,(at' r_12.jobs 0).from_,4,(at' r_12.jobs 0).people,(at' r_12.jobs 0).after⟩:dP)) 1).after⟩:dP)) 1).to_,(at' ((r_12.jobs.set 0 (⟨(at' r_12.jobs 0).parts,(at' r_12.jobs 0).hours,(at' r_12.jobs 0).from_,4,(at' r_12.jobs 0).people,(at' r_12.jobs 0).after⟩:dP)).set 1 (⟨(at' (r_12.jobs.set 0 (⟨(at' r_12.jobs 0).parts,(at' r_12.jobs 0).hours,(at' r_12.jobs 0).from_,4,(at' r_12.jobs 0).people,(at' r_12.jobs 0).after⟩:dP)) 1).parts,(at' (r_12.jobs.set 0 (⟨(at' r_12.jobs 0).parts,(at' r_12.jobs 0).hours,(at' r_12.jobs 0).from_,4,(at' r_12.jobs 0).people,(at' r_12.jobs 0).after⟩:dP)) 1).hours,(at' (r_12.jobs.set 0 (⟨(at' r_12.jobs 0).parts,(at' r_12.jobs 0).hours,(at' r_12.jobs 0).from_,4,(at' r_12.jobs 0).people,(at' r_12.jobs 0).after⟩:dP)) 1).from_,4,(at' (r_12.jobs.set 0 (⟨(at' r_12.jobs 0).parts,(at' r_12.jobs 0).hours,(at' r_12.jobs 0).from_,4,(at' r_12.jobs 0).people,(at' r_12.jobs 0).after⟩:dP)) 1).people,(at' (r_12.jobs.set 0 (⟨(at' r_12.jobs 0).parts,(at' r_12.jobs 0).hours,(at' r_12.jobs 0).from_,4,(at' r_12.jobs 0).people,(at' r_12.jobs 0).after⟩:dP)) 1).after⟩:dP)) 1).people,[0]⟩:dP)),r_12.people,r_12.redundant⟩:ah)).bind fun r_13=>
 some (decide (r_13.2=4)))
def Bd (a:(List Int)) (b:(List Int)) (i:Int):(Bool × Int)→Option (aU (Bool × Int) (Ex Bool (aU Int (Ex Unit Bool)))):=
 fun zz=>match zz with
 |(found,kz)=>
 bif (decide (kz<(b.length:Int)))then
 cu ((gB [(found,false)]=true→(0:Int)≤i∧i<(a.length:Int))∧(gB [(found,false)]=true→(0:Int)≤kz∧kz<(b.length:Int))) (
 some (.next ((bif found then true else(decide ((at' a i.toNat)=(at' b kz.toNat)))),(IntKind.wrap .i64 (kz+1)))))
 else
 some (.done (.brk found))
def AQ (a:(List Int)) (b:(List Int)):Int→Option (aU Int (Ex Unit Bool)):=
 fun i=>
 bif (decide (i<(a.length:Int)))then
 Option.bind (aD (Bd a b i) FUEL (false,0)) fun o=>match o with
 | .ret v=>some v
 | .brk found1=>
 bif (!found1)then
 some (.done (.ret false))
 else
 some (.next (IntKind.wrap .i64 (i+1)))
 else
 some (.done (.brk ()))
def gV (a:(List Int)) (b:(List Int)):Option Bool:=
 Option.bind (aD (AQ a b) FUEL (0)) fun o=>match o with
 | .ret v=>some v
 | .brk _=>
 some true
def dU (n:Int) (r_1:ah):((List Int) × Int)→Option (aU ((List Int) × Int) (Ex ((List dP) × (List Int)) Bool)):=
 fun zz=>match zz with
 |(jobs,i)=>
 bif (decide (i<(r_1.jobs.length:Int)))then
 cu ((0:Int)≤i) (
 bif (decide ((IntKind.wrap .u8 (((BitVec.ofInt (IntKind.bits .u8) (Int.fdiv n (2 ^ min i.toNat (IntKind.bits .u8))) &&& BitVec.ofInt (IntKind.bits .u8) 1).toNat:Int)))=1))then
 cu (((jobs.length+[i].length)*8≤140737488355328)∧(jobs.length+[i].length≤4611686018427387904)) (
 some (.next ((jobs++[i]),(IntKind.wrap .i64 (i+1)))))
 else
 some (.next (jobs,(IntKind.wrap .i64 (i+1)))))
 else
 some (.done (.brk (r_1.jobs,jobs)))
def fE (r_4:((List (List Int)) × Int)) (i1:Int):Int→Option (aU Int (Ex Unit (aU (Bool × Int) (Ex Bool Bool)))):=
 fun kz=>
 bif (decide (kz<(r_4.1.length:Int)))then
 (bif gB [((!decide (i1=kz)),true)]then gV (at' r_4.1 i1.toNat) (at' r_4.1 kz.toNat)else some default).bind fun r_8=>
 cu ((gB [((!decide (i1=kz)),true)]=true→(0:Int)≤i1∧i1<(r_4.1.length:Int))∧(gB [((!decide (i1=kz)),true)]=true→(0:Int)≤kz∧kz<(r_4.1.length:Int))) (
 bif (bif (!decide (i1=kz))then r_8 else false)then
 some (.done (.ret (.done (.ret false))))
 else
 some (.next (IntKind.wrap .i64 (kz+1))))
 else
 some (.done (.brk ()))
def dV (r_4:((List (List Int)) × Int)) (jobs1:(List Int)):(Bool × Int)→Option (aU (Bool × Int) (Ex Bool Bool)):=
 fun zz=>match zz with
 |(want,i1)=>
 bif (decide (i1<(r_4.1.length:Int)))then
 (bif gB [(want,true)]then gV (at' r_4.1 i1.toNat) jobs1 else some default).bind fun r_7=>
 cu (gB [(want,true)]=true→(0:Int)≤i1∧i1<(r_4.1.length:Int)) (
 Option.bind (aD (fE r_4 i1) FUEL (0)) fun o=>match o with
 | .ret v=>some v
 | .brk _=>
 some (.next ((bif want then(!r_7)else false),(IntKind.wrap .i64 (i1+1)))))
 else
 some (.done (.brk want))
def kr (y:wX) (n:Int):Option Bool:=
 bif (bif (bif (bif (bif (decide (60<(y.plant.sources.length:Int)))then true else(decide (60<(y.plant.links.length:Int))))then true else(decide (60<(y.plant.racks.length:Int))))then true else(decide (20<(y.transfers.length:Int))))then true else(decide (8<(y.jobs.length:Int))))then
 (jM).bind fun r_=>
 some r_
 else
 (gI y).bind fun r_1=>
 (dL r_1).bind fun r_2=>
 bif (!decide (r_2=0))then
 (jM).bind fun r_3=>
 some r_3
 else
 (gX r_1).bind fun r_4=>
 bif (!decide (r_4.2=0))then
 some false
 else
 Option.bind (aD (dU n r_1) FUEL (([]:List Int),0)) fun o=>match o with
 | .ret v=>some v
 | .brk (x12,jobs1)=>
 (eG (⟨r_1.plant,r_1.state,r_1.transfers,x12,r_1.people,r_1.redundant⟩:ah) jobs1).bind fun r_5=>
 (eG (⟨r_1.plant,r_1.state,r_1.transfers,x12,r_1.people,r_1.redundant⟩:ah) ([]:List Int)).bind fun r_6=>
 bif (bif (bif (!decide (r_5.2=0))then true else(!decide (r_6.2=0)))then true else(!r_6.1))then
 some false
 else
 Option.bind (aD (dV r_4 jobs1) FUEL (true,0)) fun o=>match o with
 | .ret v=>some v
 | .brk want1=>
 (bif gB [((r_5.1==want1),true)]then jM else some default).bind fun r_9=>
 some (bif (r_5.1==want1)then r_9 else false)
end Sg
