import Derived.Test.YtbjhjmcpfmhgdaaGreatWsLe
set_option linter.all false
namespace Sg
open Go
structure Source where
 bus:Int
 kind:Int
 power:Int
 sync:Int
 ohm:Int
instance:Inhabited Source:=⟨⟨default,default,default,default,default⟩⟩
def Source.cell (x:Source):Nat→DV
 |0=>(.int .i64 x.bus)
 |1=>(.int .i64 x.kind)
 |2=>(.int .i64 x.power)
 |3=>(.int .i64 x.sync)
 |4=>(.int .i64 x.ohm)
 |_=> .nilp
structure lI where
 amps:Int
 millis:Int
instance:Inhabited lI:=⟨⟨default,default⟩⟩
def lI.cell (x:lI):Nat→DV
 |0=>(.int .i64 x.amps)
 |1=>(.int .i64 x.millis)
 |_=> .nilp
structure Link where
 a:Int
 b:Int
 kind:Int
 most:Int
 ohm:Int
 trip:(List lI)
instance:Inhabited Link:=⟨⟨default,default,default,default,default,default⟩⟩
def Link.cell (x:Link):Nat→DV
 |0=>(.int .i64 x.a)
 |1=>(.int .i64 x.b)
 |2=>(.int .i64 x.kind)
 |3=>(.int .i64 x.most)
 |4=>(.int .i64 x.ohm)
 |5=>(aH none 2 lI.cell x.trip)
 |_=> .nilp
structure ai where
 e0:Int
 e1:Int
instance:Inhabited ai:=⟨⟨default,default⟩⟩
def ai.cell (x:ai):Nat→DV
 |0=>(.int .i64 x.e0)
 |1=>(.int .i64 x.e1)
 |_=> .nilp
structure aO where
 feeds:ai
 power:Int
 paths:Int
instance:Inhabited aO:=⟨⟨default,default,default⟩⟩
def aO.cell (x:aO):Nat→DV
 |0=>(.int .i64 x.feeds.e0)
 |1=>(.int .i64 x.feeds.e1)
 |2=>(.int .i64 x.power)
 |3=>(.int .i64 x.paths)
 |_=> .nilp
structure Part where
 kind:Int
 index:Int
instance:Inhabited Part:=⟨⟨default,default⟩⟩
def Part.cell (x:Part):Nat→DV
 |0=>(.int .i64 x.kind)
 |1=>(.int .i64 x.index)
 |_=> .nilp
structure aC where
 parts:(List Part)
 hours:Int
 from_:Int
 to_:Int
 people:Int
 after:(List Int)
instance:Inhabited aC:=⟨⟨default,default,default,default,default,default⟩⟩
def aC.cell (x:aC):Nat→DV
 |0=>(aH none 2 Part.cell x.parts)
 |1=>(.int .i64 x.hours)
 |2=>(.int .i64 x.from_)
 |3=>(.int .i64 x.to_)
 |4=>(.int .i64 x.people)
 |5=>(aH none 1 (aA .i64) x.after)
 |_=> .nilp
structure aF where
 buses:Int
 sources:(List Source)
 links:(List Link)
 racks:(List aO)
instance:Inhabited aF:=⟨⟨default,default,default,default⟩⟩
def aF.cell (x:aF):Nat→DV
 |0=>(.int .i64 x.buses)
 |1=>(aH none 5 Source.cell x.sources)
 |2=>(aH none 6 Link.cell x.links)
 |3=>(aH none 4 aO.cell x.racks)
 |_=> .nilp
structure State where
 closed:(List Bool)
 locked:(List Bool)
 badLink:(List Bool)
 on_:(List Bool)
 badSource:(List Bool)
 earthed:(List Bool)
 badBus:(List Bool)
instance:Inhabited State:=⟨⟨default,default,default,default,default,default,default⟩⟩
def State.cell (x:State):Nat→DV
 |0=>(aH none 1 af x.closed)
 |1=>(aH none 1 af x.locked)
 |2=>(aH none 1 af x.badLink)
 |3=>(aH none 1 af x.on_)
 |4=>(aH none 1 af x.badSource)
 |5=>(aH none 1 af x.earthed)
 |6=>(aH none 1 af x.badBus)
 |_=> .nilp
structure Transfer where
 watch:Int
 open_:Int
 close:Int
instance:Inhabited Transfer:=⟨⟨default,default,default⟩⟩
def Transfer.cell (x:Transfer):Nat→DV
 |0=>(.int .i64 x.watch)
 |1=>(.int .i64 x.open_)
 |2=>(.int .i64 x.close)
 |_=> .nilp
structure bE where
 plant:aF
 state:State
 transfers:(List Transfer)
 jobs:(List aC)
 people:Int
 redundant:Bool
instance:Inhabited bE:=⟨⟨default,default,default,default,default,default⟩⟩
def bE.cell (x:bE):Nat→DV
 |0=>(.int .i64 x.plant.buses)
 |1=>(aH none 5 Source.cell x.plant.sources)
 |2=>(aH none 6 Link.cell x.plant.links)
 |3=>(aH none 4 aO.cell x.plant.racks)
 |4=>(aH none 1 af x.state.closed)
 |5=>(aH none 1 af x.state.locked)
 |6=>(aH none 1 af x.state.badLink)
 |7=>(aH none 1 af x.state.on_)
 |8=>(aH none 1 af x.state.badSource)
 |9=>(aH none 1 af x.state.earthed)
 |10=>(aH none 1 af x.state.badBus)
 |11=>(aH none 3 Transfer.cell x.transfers)
 |12=>(aH none 6 aC.cell x.jobs)
 |13=>(.int .i64 x.people)
 |14=>(.bool x.redundant)
 |_=> .nilp
structure eP where
 l:(List Bool)
 n:Int
instance:Inhabited eP:=⟨⟨default,default⟩⟩
def eP.cell (x:eP):Nat→DV
 |0=>(aH none 1 af x.l)
 |1=>(.int .i64 x.n)
 |_=> .nilp
structure aV where
 head:(List (Int × Int))
instance:Inhabited aV:=⟨⟨default⟩⟩
def aV.cell (x:aV):Nat→DV
 |0=> .nilp
 |_=> .nilp
structure aT where
 buses:(List Int)
 sources:(List Int)
instance:Inhabited aT:=⟨⟨default,default⟩⟩
def aT.cell (x:aT):Nat→DV
 |0=>(aH none 1 (aA .i64) x.buses)
 |1=>(aH none 1 (aA .i64) x.sources)
 |_=> .nilp
structure aj where
 plant:aF
 state:State
 transfers:(List Transfer)
 jobs:(List aC)
 people:Int
 redundant:Bool
instance:Inhabited aj:=⟨⟨default,default,default,default,default,default⟩⟩
def aj.cell (x:aj):Nat→DV
 |0=>(.int .i64 x.plant.buses)
 |1=>(aH none 5 Source.cell x.plant.sources)
 |2=>(aH none 6 Link.cell x.plant.links)
 |3=>(aH none 4 aO.cell x.plant.racks)
 |4=>(aH none 1 af x.state.closed)
 |5=>(aH none 1 af x.state.locked)
 |6=>(aH none 1 af x.state.badLink)
 |7=>(aH none 1 af x.state.on_)
 |8=>(aH none 1 af x.state.badSource)
 |9=>(aH none 1 af x.state.earthed)
 |10=>(aH none 1 af x.state.badBus)
 |11=>(aH none 3 Transfer.cell x.transfers)
 |12=>(aH none 6 aC.cell x.jobs)
 |13=>(.int .i64 x.people)
 |14=>(.bool x.redundant)
 |_=> .nilp
structure jh where
 e0:Int
 e1:Int
 e2:Int
 e3:Int
 e4:Int
instance:Inhabited jh:=⟨⟨default,default,default,default,default⟩⟩
def jh.cell (x:jh):Nat→DV
 |0=>(.int .u8 x.e0)
 |1=>(.int .u8 x.e1)
 |2=>(.int .u8 x.e2)
 |3=>(.int .u8 x.e3)
 |4=>(.int .u8 x.e4)
 |_=> .nilp
structure aM where
 e0:Bool
 e1:Bool
instance:Inhabited aM:=⟨⟨default,default⟩⟩
def aM.cell (x:aM):Nat→DV
 |0=>(.bool x.e0)
 |1=>(.bool x.e1)
 |_=> .nilp
def aT.ev (x:aT):Nat→EV
 |0=> .row 3 1 x.buses.length (ah (aA .i64) x.buses)
 |1=> .row 3 1 x.sources.length (ah (aA .i64) x.sources)
 |_=> .d .nilp
def gW (a:Int) (b:Int):Option Link:=
 some (⟨a,b,3,500,10,([]:List lI)⟩:Link)
def bX:Option bE:=
 (gW 0 2).bind fun r_=>
 (gW 1 3).bind fun r_1=>
 (gW 2 3).bind fun r_2=>
 aU (((0:Int)≤3)∧((1:Int)*3≤281474976710656)∧((3:Int)≤9223372036854775807)∧((0:Int)≤2)∧((1:Int)*2≤281474976710656)∧((2:Int)≤9223372036854775807)∧((0:Int)≤4)∧((1:Int)*4≤281474976710656)∧((4:Int)≤9223372036854775807)) (
 some (⟨(⟨4,[(⟨0,1,500,1,20⟩:Source),(⟨1,1,500,1,20⟩:Source)],[r_,r_1,r_2],[(⟨(⟨2,3⟩:ai),100,2⟩:aO)]⟩:aF),(⟨[true,true,false],(List.replicate 3 (false:Bool)),(List.replicate 3 (false:Bool)),[true,true],(List.replicate 2 (false:Bool)),(List.replicate 4 (false:Bool)),(List.replicate 4 (false:Bool))⟩:State),([]:List Transfer),[(⟨[(⟨3,0⟩:Part)],2,0,10,2,([]:List Int)⟩:aC),(⟨[(⟨3,1⟩:Part)],3,0,10,2,([]:List Int)⟩:aC)],10,false⟩:bE))
def aS (n:Int) (first:Int) (last:Int):Option Bool:=
 some (bif (decide (first≤n))then(decide (n≤last))else false)
def uS (p:aF):Option (Int × (List Source) × (List Link) × (List aO)):=
 some (p.buses,p.sources,p.links,p.racks)
def Au (p:aF):Option (Int × (List Source) × (List Link) × (List aO)):=
 some (p.buses,p.sources,p.links,p.racks)
def zJ (p:aF):Option (Int × (List Source) × (List Link) × (List aO)):=
 some (p.buses,p.sources,p.links,p.racks)
def rH (x:Source) (x1:Int) (x11:(List Source)) (x12:(List Link)) (x13:(List aO)):Option Bool:=
 (aS x.bus 0 (IntKind.wrap .i64 (x1 - 1))).bind fun r_=>
 (bif gB [(r_,true)]then aS x.kind 1 3 else some default).bind fun r_1=>
 (bif gB [((bif r_ then r_1 else false),true)]then aS x.power 1 100000 else some default).bind fun r_2=>
 (bif gB [((bif (bif r_ then r_1 else false)then r_2 else false),true)]then aS x.sync 0 8 else some default).bind fun r_3=>
 (bif gB [((bif (bif (bif r_ then r_1 else false)then r_2 else false)then r_3 else false),true)]then aS x.ohm 10 100000 else some default).bind fun r_4=>
 some (bif (bif (bif (bif r_ then r_1 else false)then r_2 else false)then r_3 else false)then r_4 else false)
def wh (x:Source) (x1:Int) (x11:(List Source)) (x12:(List Link)) (x13:(List aO)):Option Bool:=
 (rH x x1 x11 x12 x13).bind fun r_=>
 some (!r_)
def uE (s_:(List Source)) (f_:Int) (f_1:(List Source)) (f_2:(List Link)) (f_3:(List aO)):Int→Option (aI Int (Ex Unit Int)):=
 fun t8=>
 bif (decide (t8<(s_.length:Int)))then
 (wh (at' s_ t8.toNat) f_ f_1 f_2 f_3).bind fun r_=>
 aU ((0:Int)≤t8∧t8<(s_.length:Int)) (
 bif r_ then
 some (.done (.ret t8))
 else
 some (.next (IntKind.wrap .i64 (t8+1))))
 else
 some (.done (.brk ()))
def nR (s_:(List Source)) (f_:Int) (f_1:(List Source)) (f_2:(List Link)) (f_3:(List aO)):Option Int:=
 Option.bind (aD (uE s_ f_ f_1 f_2 f_3) FUEL (0)) fun o=>match o with
 | .ret v=>some v
 | .brk _=>
 some (-1)
def j4 (s_:(List Source)) (f_:Int) (f_1:(List Source)) (f_2:(List Link)) (f_3:(List aO)):Option Bool:=
 (nR s_ f_ f_1 f_2 f_3).bind fun r_=>
 some (decide (0≤r_))
def A7 (l:(List Source)) (most:Int) (right:Int) (right1:(List Source)) (right2:(List Link)) (right3:(List aO)):Option Bool:=
 (bif gB [((decide ((l.length:Int)≤most)),true)]then j4 l right right1 right2 right3 else some default).bind fun r_=>
 some (bif (decide ((l.length:Int)≤most))then(!r_)else false)
def Ad (x:Link):Int→Option (aI Int (Ex Unit Bool)):=
 fun t50=>
 bif (decide (t50<(x.trip.length:Int)))then
 aU ((0:Int)≤t50∧t50<(x.trip.length:Int)) (
 (aS ((at' x.trip t50.toNat).amps) 1 1000000).bind fun r_5=>
 (bif gB [((!r_5),false)]then aS ((at' x.trip t50.toNat).millis) 1 100000 else some default).bind fun r_6=>
 aU ((gB [((decide (0<t50)),true),((bif (!r_5)then true else(!r_6)),false)]=true→(0:Int)≤(IntKind.wrap .i64 (t50 - 1))∧(IntKind.wrap .i64 (t50 - 1))<(x.trip.length:Int))∧(gB [((decide (((at' x.trip t50.toNat).amps)≤((at' x.trip ((IntKind.wrap .i64 (t50 - 1)).toNat)).amps))),false),((decide (0<t50)),true),((bif (!r_5)then true else(!r_6)),false)]=true→(0:Int)≤(IntKind.wrap .i64 (t50 - 1))∧(IntKind.wrap .i64 (t50 - 1))<(x.trip.length:Int))) (
 bif (bif (bif (!r_5)then true else(!r_6))then true else(bif (decide (0<t50))then(bif (decide (((at' x.trip t50.toNat).amps)≤((at' x.trip ((IntKind.wrap .i64 (t50 - 1)).toNat)).amps)))then true else(decide (((at' x.trip ((IntKind.wrap .i64 (t50 - 1)).toNat)).millis)≤((at' x.trip t50.toNat).millis))))else false))then
 some (.done (.ret false))
 else
 some (.next (IntKind.wrap .i64 (t50+1)))))
 else
 some (.done (.brk ()))
def uV (x:Link) (x1:Int) (x11:(List Source)) (x12:(List Link)) (x13:(List aO)):Option Bool:=
 (aS x.a 0 (IntKind.wrap .i64 (x1 - 1))).bind fun r_=>
 (bif gB [((!r_),false)]then aS x.b 0 (IntKind.wrap .i64 (x1 - 1))else some default).bind fun r_1=>
 (bif gB [((bif (bif (!r_)then true else(!r_1))then true else(decide (x.a=x.b))),false)]then aS x.kind 1 3 else some default).bind fun r_2=>
 (bif gB [((bif (bif (bif (!r_)then true else(!r_1))then true else(decide (x.a=x.b)))then true else(!r_2)),false)]then aS x.most 1 100000 else some default).bind fun r_3=>
 (bif gB [((bif (bif (bif (bif (!r_)then true else(!r_1))then true else(decide (x.a=x.b)))then true else(!r_2))then true else(!r_3)),false)]then aS x.ohm 10 100000 else some default).bind fun r_4=>
 bif (bif (bif (bif (bif (bif (!r_)then true else(!r_1))then true else(decide (x.a=x.b)))then true else(!r_2))then true else(!r_3))then true else(!r_4))then
 some false
 else
 Option.bind (aD (Ad x) FUEL (0)) fun o=>match o with
 | .ret v=>some v
 | .brk _=>
 some (bif (decide ((x.trip.length:Int)≤6))then(bif (decide ((x.trip.length:Int)=0))then true else(decide (x.kind=3)))else false)
def o5 (x:Link) (x1:Int) (x11:(List Source)) (x12:(List Link)) (x13:(List aO)):Option Bool:=
 (uV x x1 x11 x12 x13).bind fun r_=>
 some (!r_)
def qx (s_:(List Link)) (f_:Int) (f_1:(List Source)) (f_2:(List Link)) (f_3:(List aO)):Int→Option (aI Int (Ex Unit Int)):=
 fun t8=>
 bif (decide (t8<(s_.length:Int)))then
 (o5 (at' s_ t8.toNat) f_ f_1 f_2 f_3).bind fun r_=>
 aU ((0:Int)≤t8∧t8<(s_.length:Int)) (
 bif r_ then
 some (.done (.ret t8))
 else
 some (.next (IntKind.wrap .i64 (t8+1))))
 else
 some (.done (.brk ()))
def kg (s_:(List Link)) (f_:Int) (f_1:(List Source)) (f_2:(List Link)) (f_3:(List aO)):Option Int:=
 Option.bind (aD (qx s_ f_ f_1 f_2 f_3) FUEL (0)) fun o=>match o with
 | .ret v=>some v
 | .brk _=>
 some (-1)
def jb (s_:(List Link)) (f_:Int) (f_1:(List Source)) (f_2:(List Link)) (f_3:(List aO)):Option Bool:=
 (kg s_ f_ f_1 f_2 f_3).bind fun r_=>
 some (decide (0≤r_))
def sU (l:(List Link)) (most:Int) (right:Int) (right1:(List Source)) (right2:(List Link)) (right3:(List aO)):Option Bool:=
 (bif gB [((decide ((l.length:Int)≤most)),true)]then jb l right right1 right2 right3 else some default).bind fun r_=>
 some (bif (decide ((l.length:Int)≤most))then(!r_)else false)
def yB (x:aO):Option Int:=
 bif (decide (x.feeds.e1=(-1)))then
 some 1
 else
 some 2
def wu (x:aO) (x1:Int) (x11:(List Source)) (x12:(List Link)) (x13:(List aO)):Option Bool:=
 (aS x.feeds.e0 0 (IntKind.wrap .i64 (x1 - 1))).bind fun r_=>
 (bif gB [(r_,true)]then aS x.feeds.e1 (-1) (IntKind.wrap .i64 (x1 - 1))else some default).bind fun r_1=>
 (bif gB [((bif (bif r_ then r_1 else false)then(!decide (x.feeds.e0=x.feeds.e1))else false),true)]then aS x.power 1 100000 else some default).bind fun r_2=>
 (bif gB [((bif (bif (bif r_ then r_1 else false)then(!decide (x.feeds.e0=x.feeds.e1))else false)then r_2 else false),true)]then yB x else some default).bind fun r_3=>
 (bif gB [((bif (bif (bif r_ then r_1 else false)then(!decide (x.feeds.e0=x.feeds.e1))else false)then r_2 else false),true)]then aS x.paths 0 r_3 else some default).bind fun r_4=>
 some (bif (bif (bif (bif r_ then r_1 else false)then(!decide (x.feeds.e0=x.feeds.e1))else false)then r_2 else false)then r_4 else false)
def pq (x:aO) (x1:Int) (x11:(List Source)) (x12:(List Link)) (x13:(List aO)):Option Bool:=
 (wu x x1 x11 x12 x13).bind fun r_=>
 some (!r_)
def qi (s_:(List aO)) (f_:Int) (f_1:(List Source)) (f_2:(List Link)) (f_3:(List aO)):Int→Option (aI Int (Ex Unit Int)):=
 fun t8=>
 bif (decide (t8<(s_.length:Int)))then
 (pq (⟨((at' s_ t8.toNat).feeds),(at' s_ t8.toNat).power,(at' s_ t8.toNat).paths⟩:aO) f_ f_1 f_2 f_3).bind fun r_=>
 aU ((0:Int)≤t8∧t8<(s_.length:Int)) (
 bif r_ then
 some (.done (.ret t8))
 else
 some (.next (IntKind.wrap .i64 (t8+1))))
 else
 some (.done (.brk ()))
def kC (s_:(List aO)) (f_:Int) (f_1:(List Source)) (f_2:(List Link)) (f_3:(List aO)):Option Int:=
 Option.bind (aD (qi s_ f_ f_1 f_2 f_3) FUEL (0)) fun o=>match o with
 | .ret v=>some v
 | .brk _=>
 some (-1)
def iR (s_:(List aO)) (f_:Int) (f_1:(List Source)) (f_2:(List Link)) (f_3:(List aO)):Option Bool:=
 (kC s_ f_ f_1 f_2 f_3).bind fun r_=>
 some (decide (0≤r_))
def tK (l:(List aO)) (most:Int) (right:Int) (right1:(List Source)) (right2:(List Link)) (right3:(List aO)):Option Bool:=
 (bif gB [((decide ((l.length:Int)≤most)),true)]then iR l right right1 right2 right3 else some default).bind fun r_=>
 some (bif (decide ((l.length:Int)≤most))then(!r_)else false)
def qh (p:aF):Option Int:=
 (aS p.buses 1 24).bind fun r_=>
 bif (!r_)then
 some 10
 else
 (uS p).bind fun r_1=>
 (A7 p.sources 8 r_1.1 r_1.2.1 r_1.2.2.1 r_1.2.2.2).bind fun r_2=>
 bif (!r_2)then
 some 11
 else
 (Au p).bind fun r_3=>
 (sU p.links 40 r_3.1 r_3.2.1 r_3.2.2.1 r_3.2.2.2).bind fun r_4=>
 bif (!r_4)then
 some 12
 else
 (zJ p).bind fun r_5=>
 (tK p.racks 24 r_5.1 r_5.2.1 r_5.2.2.1 r_5.2.2.2).bind fun r_6=>
 bif (!r_6)then
 some 13
 else
 some 0
def uo (p:aF) (s_:State):Int→Option (aI Int (Ex Unit Int)):=
 fun t55=>
 bif (decide (t55<([(⟨s_.closed,(p.links.length:Int)⟩:eP),(⟨s_.locked,(p.links.length:Int)⟩:eP),(⟨s_.badLink,(p.links.length:Int)⟩:eP),(⟨s_.on_,(p.sources.length:Int)⟩:eP),(⟨s_.badSource,(p.sources.length:Int)⟩:eP),(⟨s_.earthed,p.buses⟩:eP),(⟨s_.badBus,p.buses⟩:eP)].length:Int)))then
 aU ((0:Int)≤t55∧t55<([(⟨s_.closed,(p.links.length:Int)⟩:eP),(⟨s_.locked,(p.links.length:Int)⟩:eP),(⟨s_.badLink,(p.links.length:Int)⟩:eP),(⟨s_.on_,(p.sources.length:Int)⟩:eP),(⟨s_.badSource,(p.sources.length:Int)⟩:eP),(⟨s_.earthed,p.buses⟩:eP),(⟨s_.badBus,p.buses⟩:eP)].length:Int)) (
 bif (!decide ((((at' [(⟨s_.closed,(p.links.length:Int)⟩:eP),(⟨s_.locked,(p.links.length:Int)⟩:eP),(⟨s_.badLink,(p.links.length:Int)⟩:eP),(⟨s_.on_,(p.sources.length:Int)⟩:eP),(⟨s_.badSource,(p.sources.length:Int)⟩:eP),(⟨s_.earthed,p.buses⟩:eP),(⟨s_.badBus,p.buses⟩:eP)] t55.toNat).l).length:Int)=((at' [(⟨s_.closed,(p.links.length:Int)⟩:eP),(⟨s_.locked,(p.links.length:Int)⟩:eP),(⟨s_.badLink,(p.links.length:Int)⟩:eP),(⟨s_.on_,(p.sources.length:Int)⟩:eP),(⟨s_.badSource,(p.sources.length:Int)⟩:eP),(⟨s_.earthed,p.buses⟩:eP),(⟨s_.badBus,p.buses⟩:eP)] t55.toNat).n)))then
 some (.done (.ret 9))
 else
 some (.next (IntKind.wrap .i64 (t55+1))))
 else
 some (.done (.brk ()))
def tY (p:aF) (s_:State):Int→Option (aI Int (Ex Unit Int)):=
 fun t69=>
 bif (decide (t69<(p.links.length:Int)))then
 aU ((0:Int)≤t69∧t69<(p.links.length:Int)) (
 aU ((gB [((decide (((at' p.links t69.toNat).kind)=1)),true)]=true→(0:Int)≤t69∧t69<(s_.closed.length:Int))∧(gB [((!(at' s_.closed t69.toNat)),false),((decide (((at' p.links t69.toNat).kind)=1)),true)]=true→(0:Int)≤t69∧t69<(s_.locked.length:Int))) (
 bif (bif (decide (((at' p.links t69.toNat).kind)=1))then(bif (!(at' s_.closed t69.toNat))then true else(at' s_.locked t69.toNat))else false)then
 some (.done (.ret 9))
 else
 some (.next (IntKind.wrap .i64 (t69+1)))))
 else
 some (.done (.brk ()))
def eU (p:aF) (s_:State):Option Int:=
 (qh p).bind fun r_=>
 bif (!decide (r_=0))then
 some r_
 else
 Option.bind (aD (uo p s_) FUEL (0)) fun o=>match o with
 | .ret v=>some v
 | .brk _=>
 Option.bind (aD (tY p s_) FUEL (0)) fun o=>match o with
 | .ret v=>some v
 | .brk _=>
 some 0
def fQ (i:Int) (x1:Int) (x11:(List Source)) (x12:(List Link)) (x13:(List aO)):Option Bool:=
 aU (gB [((bif (decide (0≤i))then(decide (i<(x12.length:Int)))else false),true)]=true→(0:Int)≤i∧i<(x12.length:Int)) (
 some (bif (bif (decide (0≤i))then(decide (i<(x12.length:Int)))else false)then(!decide (((at' x12 i.toNat).kind)=1))else false))
def jD (x:Transfer) (x1:Int) (x11:(List Source)) (x12:(List Link)) (x13:(List aO)) (x2:Int) (x21:(List Source)) (x22:(List Link)) (x23:(List aO)):Option Bool:=
 (bif gB [((bif (decide (x.watch<0))then true else(decide (x1≤x.watch))),false)]then fQ x.close x2 x21 x22 x23 else some default).bind fun r_=>
 (bif gB [((!decide (x.open_=(-1))),true),((bif (bif (decide (x.watch<0))then true else(decide (x1≤x.watch)))then true else(!r_)),false)]then fQ x.open_ x2 x21 x22 x23 else some default).bind fun r_1=>
 some (bif (bif (bif (decide (x.watch<0))then true else(decide (x1≤x.watch)))then true else(!r_))then true else(bif (!decide (x.open_=(-1)))then(bif (!r_1)then true else(decide (x.open_=x.close)))else false))
def qg (s_:(List Transfer)) (f_:Int) (f_1:(List Source)) (f_2:(List Link)) (f_3:(List aO)) (f_4:Int) (f_5:(List Source)) (f_6:(List Link)) (f_7:(List aO)):Int→Option (aI Int (Ex Unit Int)):=
 fun t8=>
 bif (decide (t8<(s_.length:Int)))then
 (jD (at' s_ t8.toNat) f_ f_1 f_2 f_3 f_4 f_5 f_6 f_7).bind fun r_=>
 aU ((0:Int)≤t8∧t8<(s_.length:Int)) (
 bif r_ then
 some (.done (.ret t8))
 else
 some (.next (IntKind.wrap .i64 (t8+1))))
 else
 some (.done (.brk ()))
def kJ (s_:(List Transfer)) (f_:Int) (f_1:(List Source)) (f_2:(List Link)) (f_3:(List aO)) (f_4:Int) (f_5:(List Source)) (f_6:(List Link)) (f_7:(List aO)):Option Int:=
 Option.bind (aD (qg s_ f_ f_1 f_2 f_3 f_4 f_5 f_6 f_7) FUEL (0)) fun o=>match o with
 | .ret v=>some v
 | .brk _=>
 some (-1)
def iP (s_:(List Transfer)) (f_:Int) (f_1:(List Source)) (f_2:(List Link)) (f_3:(List aO)) (f_4:Int) (f_5:(List Source)) (f_6:(List Link)) (f_7:(List aO)):Option Bool:=
 (kJ s_ f_ f_1 f_2 f_3 f_4 f_5 f_6 f_7).bind fun r_=>
 some (decide (0≤r_))
def gQ (p:aF) (s_:State) (l:(List Transfer)):Option Int:=
 (eU p s_).bind fun r_=>
 bif (!decide (r_=0))then
 some r_
 else
 (bif gB [((decide (16<(l.length:Int))),false)]then iP l p.buses p.sources p.links p.racks p.buses p.sources p.links p.racks else some default).bind fun r_1=>
 bif (bif (decide (16<(l.length:Int)))then true else r_1)then
 some 1
 else
 some 0
def uQ (s_:(List Bool)) (s_nn:Bool):Option (List Bool):=
 bif (!s_nn)then
 some ([]:List Bool)
 else
 aU (((([]:List Bool).length+s_.length)*1≤140737488355328)∧(([]:List Bool).length+s_.length≤4611686018427387904)) (
 some (([]:List Bool)++s_))
def aZ (s:(List Bool)):Option (List Bool):=uQ s true
def wz (s_:State):Option State:=
 aU ((0:Int)≤0∧0<(7:Int)) (
 (aZ s_.closed).bind fun r_=>
 aU ((0:Int)≤1∧1<(7:Int)) (
 (aZ s_.locked).bind fun r_1=>
 aU ((0:Int)≤2∧2<(7:Int)) (
 (aZ s_.badLink).bind fun r_2=>
 aU ((0:Int)≤3∧3<(7:Int)) (
 (aZ s_.on_).bind fun r_3=>
 aU ((0:Int)≤4∧4<(7:Int)) (
 (aZ s_.badSource).bind fun r_4=>
 aU ((0:Int)≤5∧5<(7:Int)) (
 (aZ s_.earthed).bind fun r_5=>
 aU ((0:Int)≤6∧6<(7:Int)) (
 (aZ s_.badBus).bind fun r_6=>
 some (⟨r_,r_1,r_2,r_3,r_4,r_5,r_6⟩:State))))))))
def pJ (p:aF) (s_:State) (l:(List Transfer)):Option ((List Transfer) × Int × (List Source) × (List Link) × (List aO) × State):=
 some (l,p.buses,p.sources,p.links,p.racks,s_)
def oC (p:aF) (s_:State):Option (Int × (List Source) × (List Link) × (List aO) × (List Bool) × (List Bool) × (List Bool) × (List Bool) × (List Bool) × (List Bool) × (List Bool)):=
 some (p.buses,p.sources,p.links,p.racks,s_.closed,s_.locked,s_.badLink,s_.on_,s_.badSource,s_.earthed,s_.badBus)
def wI (g:aV):Int→Option (aI Int (Ex Unit Int)):=
 fun x1=>
 bif (!((bU dP x1 g.head).isSome))then
 some (.done (.ret x1))
 else
 some (.next ((bU dP x1 g.head).getD 0))
def fF (g:aV) (x:Int):Option Int:=
 Option.bind (aD (wI g) FUEL (x)) fun o=>match o with
 | .ret v=>some v
 | .brk _=>none
def mE (g:aV) (a:Int) (b:Int):Option (List (Int × Int)):=
 (fF g a).bind fun r_=>
 (fF g b).bind fun r_1=>
 bif (!decide (r_=r_1))then
 some (fO dP r_ r_1 g.head)
 else
 some g.head
def lM (x22:Int) (x221:Int) (x222:Int) (x223:Int) (x224:Int) (x225:(List lI)) (o_:aV):Option aV:=
 (mE o_ x22 x221).bind fun r_=>
 some (⟨r_⟩:aV)
def qP (x12:(List Link)) (x2:(List Bool)) (x22:(List Bool)) (x26:(List Bool)):((List (Int × Int)) × Int)→Option (aI ((List (Int × Int)) × Int) (Ex (List (Int × Int)) aV)):=
 fun zz=>match zz with
 |(o0,t9)=>
 bif (decide (t9<(x12.length:Int)))then
 aU ((0:Int)≤t9∧t9<(x12.length:Int)) (
 bif (bif (bif (bif (at' x2 t9.toNat)then(!(at' x22 t9.toNat))else false)then(!(at' x26 (((at' x12 t9.toNat).a).toNat)))else false)then(!(at' x26 (((at' x12 t9.toNat).b).toNat)))else false)then
 (lM ((at' x12 t9.toNat).a) ((at' x12 t9.toNat).b) ((at' x12 t9.toNat).kind) ((at' x12 t9.toNat).most) ((at' x12 t9.toNat).ohm) ((at' x12 t9.toNat).trip) (⟨o0⟩:aV)).bind fun r_=>
 aU (((0:Int)≤t9∧t9<(x2.length:Int))∧(gB [((at' x2 t9.toNat),true)]=true→(0:Int)≤t9∧t9<(x22.length:Int))∧(gB [((bif (at' x2 t9.toNat)then(!(at' x22 t9.toNat))else false),true)]=true→(0:Int)≤(at' x12 t9.toNat).a∧(at' x12 t9.toNat).a<(x26.length:Int))∧(gB [((bif (bif (at' x2 t9.toNat)then(!(at' x22 t9.toNat))else false)then(!(at' x26 (((at' x12 t9.toNat).a).toNat)))else false),true)]=true→(0:Int)≤(at' x12 t9.toNat).b∧(at' x12 t9.toNat).b<(x26.length:Int))) (
 some (.next (r_.head,(IntKind.wrap .i64 (t9+1)))))
 else
 aU (((0:Int)≤t9∧t9<(x2.length:Int))∧(gB [((at' x2 t9.toNat),true)]=true→(0:Int)≤t9∧t9<(x22.length:Int))∧(gB [((bif (at' x2 t9.toNat)then(!(at' x22 t9.toNat))else false),true)]=true→(0:Int)≤(at' x12 t9.toNat).a∧(at' x12 t9.toNat).a<(x26.length:Int))∧(gB [((bif (bif (at' x2 t9.toNat)then(!(at' x22 t9.toNat))else false)then(!(at' x26 (((at' x12 t9.toNat).a).toNat)))else false),true)]=true→(0:Int)≤(at' x12 t9.toNat).b∧(at' x12 t9.toNat).b<(x26.length:Int))) (
 some (.next (o0,(IntKind.wrap .i64 (t9+1))))))
 else
 some (.done (.brk o0))
def lU (x1:Int) (x11:(List Source)) (x12:(List Link)) (x13:(List aO)) (x2:(List Bool)) (x21:(List Bool)) (x22:(List Bool)) (x23:(List Bool)) (x24:(List Bool)) (x25:(List Bool)) (x26:(List Bool)) (o_:aV):Option aV:=
 Option.bind (aD (qP x12 x2 x22 x26) FUEL (o_.head,0)) fun o=>match o with
 | .ret v=>some v
 | .brk o01=>
 some (⟨o01⟩:aV)
def yY (p:aF) (s_:State) (r_1:aV):((List aT) × (List (Int × Int)) × Int)→Option (aI ((List aT) × (List (Int × Int)) × Int) (Ex ((List aT) × (List (Int × Int))) (List aT))):=
 fun zz=>match zz with
 |(out,at_,t32)=>
 bif (decide (t32<p.buses))then
 aU ((0:Int)≤t32∧t32<(s_.badBus.length:Int)) (
 bif (at' s_.badBus t32.toNat)then
 some (.next (out,at_,(IntKind.wrap .i64 (t32+1))))
 else
 (fF r_1 t32).bind fun r_2=>
 bif (!((bU dP r_2 at_).isSome))then
 aU (((out.length+[(⟨([]:List Int),([]:List Int)⟩:aT)].length)*48≤140737488355328)∧(out.length+[(⟨([]:List Int),([]:List Int)⟩:aT)].length≤4611686018427387904)) (
 aU (((0:Int)≤((bU dP r_2 (fO dP r_2 (out.length:Int) at_)).getD 0)∧((bU dP r_2 (fO dP r_2 (out.length:Int) at_)).getD 0)<((out++[(⟨([]:List Int),([]:List Int)⟩:aT)]).length:Int))∧((((at' (out++[(⟨([]:List Int),([]:List Int)⟩:aT)]) (((bU dP r_2 (fO dP r_2 (out.length:Int) at_)).getD 0).toNat)).buses).length+[t32].length)*8≤140737488355328)∧(((at' (out++[(⟨([]:List Int),([]:List Int)⟩:aT)]) (((bU dP r_2 (fO dP r_2 (out.length:Int) at_)).getD 0).toNat)).buses).length+[t32].length≤4611686018427387904)) (
 some (.next (((out++[(⟨([]:List Int),([]:List Int)⟩:aT)]).set (((bU dP r_2 (fO dP r_2 (out.length:Int) at_)).getD 0).toNat) (⟨(((at' (out++[(⟨([]:List Int),([]:List Int)⟩:aT)]) (((bU dP r_2 (fO dP r_2 (out.length:Int) at_)).getD 0).toNat)).buses)++[t32]),(at' (out++[(⟨([]:List Int),([]:List Int)⟩:aT)]) (((bU dP r_2 (fO dP r_2 (out.length:Int) at_)).getD 0).toNat)).sources⟩:aT)),(fO dP r_2 (out.length:Int) at_),(IntKind.wrap .i64 (t32+1))))))
 else
 aU (((0:Int)≤((bU dP r_2 at_).getD 0)∧((bU dP r_2 at_).getD 0)<(out.length:Int))∧((((at' out (((bU dP r_2 at_).getD 0).toNat)).buses).length+[t32].length)*8≤140737488355328)∧(((at' out (((bU dP r_2 at_).getD 0).toNat)).buses).length+[t32].length≤4611686018427387904)) (
 some (.next ((out.set (((bU dP r_2 at_).getD 0).toNat) (⟨(((at' out (((bU dP r_2 at_).getD 0).toNat)).buses)++[t32]),(at' out (((bU dP r_2 at_).getD 0).toNat)).sources⟩:aT)),at_,(IntKind.wrap .i64 (t32+1))))))
 else
 some (.done (.brk (out,at_)))
def zC (p:aF) (s_:State) (r_1:aV) (at_1:(List (Int × Int))):((List aT) × Int)→Option (aI ((List aT) × Int) (Ex (List aT) (List aT))):=
 fun zz=>match zz with
 |(out2,t78)=>
 bif (decide (t78<(p.sources.length:Int)))then
 aU ((0:Int)≤t78∧t78<(p.sources.length:Int)) (
 aU (((0:Int)≤t78∧t78<(s_.on_.length:Int))∧(gB [((at' s_.on_ t78.toNat),true)]=true→(0:Int)≤t78∧t78<(s_.badSource.length:Int))∧(gB [((bif (at' s_.on_ t78.toNat)then(!(at' s_.badSource t78.toNat))else false),true)]=true→(0:Int)≤(at' p.sources t78.toNat).bus∧(at' p.sources t78.toNat).bus<(s_.badBus.length:Int))) (
 bif (bif (bif (at' s_.on_ t78.toNat)then(!(at' s_.badSource t78.toNat))else false)then(!(at' s_.badBus (((at' p.sources t78.toNat).bus).toNat)))else false)then
 (fF r_1 ((at' p.sources t78.toNat).bus)).bind fun r_3=>
 aU (((0:Int)≤((bU dP r_3 at_1).getD 0)∧((bU dP r_3 at_1).getD 0)<(out2.length:Int))∧((((at' out2 (((bU dP r_3 at_1).getD 0).toNat)).sources).length+[t78].length)*8≤140737488355328)∧(((at' out2 (((bU dP r_3 at_1).getD 0).toNat)).sources).length+[t78].length≤4611686018427387904)) (
 some (.next ((out2.set (((bU dP r_3 at_1).getD 0).toNat) (⟨(at' out2 (((bU dP r_3 at_1).getD 0).toNat)).buses,(((at' out2 (((bU dP r_3 at_1).getD 0).toNat)).sources)++[t78])⟩:aT)),(IntKind.wrap .i64 (t78+1)))))
 else
 some (.next (out2,(IntKind.wrap .i64 (t78+1))))))
 else
 some (.done (.brk out2))
def lZ (p:aF) (s_:State):Option (List aT):=
 (oC p s_).bind fun r_=>
 (lU r_.1 r_.2.1 r_.2.2.1 r_.2.2.2.1 r_.2.2.2.2.1 r_.2.2.2.2.2.1 r_.2.2.2.2.2.2.1 r_.2.2.2.2.2.2.2.1 r_.2.2.2.2.2.2.2.2.1 r_.2.2.2.2.2.2.2.2.2.1 r_.2.2.2.2.2.2.2.2.2.2 (⟨([]:(List (Int × Int)))⟩:aV)).bind fun r_1=>
 Option.bind (aD (yY p s_ r_1) FUEL (([]:List aT),([]:(List (Int × Int))),0)) fun o=>match o with
 | .ret v=>some v
 | .brk (out1,at_1)=>
 Option.bind (aD (zC p s_ r_1 at_1) FUEL (out1,0)) fun o=>match o with
 | .ret v=>some v
 | .brk out3=>
 some out3
def DK (r_1:(List aT)) (t25:Int):((List Bool) × Int)→Option (aI ((List Bool) × Int) (Ex (List Bool) (aI ((List Bool) × Int) (Ex (List Bool) ((List Bool) × Int))))):=
 fun zz=>match zz with
 |(out2,t32)=>
 bif (decide (t32<(((at' r_1 t25.toNat).buses).length:Int)))then
 aU ((0:Int)≤t32∧t32<(((at' r_1 t25.toNat).buses).length:Int)) (
 aU ((0:Int)≤(at' ((at' r_1 t25.toNat).buses) t32.toNat)∧(at' ((at' r_1 t25.toNat).buses) t32.toNat)<(out2.length:Int)) (
 some (.next ((out2.set ((at' ((at' r_1 t25.toNat).buses) t32.toNat).toNat) (decide (0<(((at' r_1 t25.toNat).sources).length:Int)))),(IntKind.wrap .i64 (t32+1))))))
 else
 some (.done (.brk out2))
def Dv (r_1:(List aT)):((List Bool) × Int)→Option (aI ((List Bool) × Int) (Ex (List Bool) ((List Bool) × Int))):=
 fun zz=>match zz with
 |(out,t25)=>
 bif (decide (t25<(r_1.length:Int)))then
 aU ((0:Int)≤t25∧t25<(r_1.length:Int)) (
 Option.bind (aD (DK r_1 t25) FUEL (out,0)) fun o=>match o with
 | .ret v=>some v
 | .brk out3=>
 some (.next (out3,(IntKind.wrap .i64 (t25+1)))))
 else
 some (.done (.brk out))
def iF (p:aF) (s_:State):Option ((List Bool) × Int):=
 (eU p s_).bind fun r_=>
 bif (!decide (r_=0))then
 some (([]:List Bool),r_)
 else
 aU (((0:Int)≤p.buses)∧((1:Int)*p.buses≤281474976710656)∧((p.buses:Int)≤9223372036854775807)) (
 (lZ p s_).bind fun r_1=>
 Option.bind (aD (Dv r_1) FUEL ((List.replicate p.buses.toNat (false:Bool)),0)) fun o=>match o with
 | .ret v=>some v
 | .brk out1=>
 some (out1,0))
def cK (x y:ai):Int:=if x.e0<y.e0 then -1 else if y.e0<x.e0 then 1 else if x.e1<y.e1 then -1 else if y.e1<x.e1 then 1 else 0
def pM (s:(List ai)):Option (List ai):=match s with
 |[]=>some []
 |x::xs=>bif decide ((x::xs).length<4611686018427387904)then some ((x::xs).mergeSort fun x y=> !decide (cK y x<0))else none
def yL (p:aF) (r_1:(List aT)) (t24:Int) (t31:Int):((List ai) × Int)→Option (aI ((List ai) × Int) (Ex (List ai) (aI ((List ai) × Int) (Ex (List ai) (aI ((List ai) × Int) (Ex (List ai) ((List ai) × Int))))))):=
 fun zz=>match zz with
 |(out4,t42)=>
 bif (decide (t42<(((((at' r_1 t24.toNat).sources).length - ((IntKind.wrap .i64 (t31+1)).toNat)):Nat):Int)))then
 aU ((0:Int)≤t42∧t42<((((at' r_1 t24.toNat).sources).drop ((IntKind.wrap .i64 (t31+1)).toNat)).length:Int)) (
 aU (((0:Int)≤(at' ((at' r_1 t24.toNat).sources) t31.toNat)∧(at' ((at' r_1 t24.toNat).sources) t31.toNat)<(p.sources.length:Int))∧(gB [((decide (((at' p.sources ((at' ((at' r_1 t24.toNat).sources) t31.toNat).toNat)).sync)=0)),false)]=true→(0:Int)≤(at' ((at' r_1 t24.toNat).sources) t31.toNat)∧(at' ((at' r_1 t24.toNat).sources) t31.toNat)<(p.sources.length:Int))∧(gB [((decide (((at' p.sources ((at' ((at' r_1 t24.toNat).sources) t31.toNat).toNat)).sync)=0)),false)]=true→(0:Int)≤(at' (((at' r_1 t24.toNat).sources).drop ((IntKind.wrap .i64 (t31+1)).toNat)) t42.toNat)∧(at' (((at' r_1 t24.toNat).sources).drop ((IntKind.wrap .i64 (t31+1)).toNat)) t42.toNat)<(p.sources.length:Int))) (
 bif (bif (decide (((at' p.sources ((at' ((at' r_1 t24.toNat).sources) t31.toNat).toNat)).sync)=0))then true else(!decide (((at' p.sources ((at' ((at' r_1 t24.toNat).sources) t31.toNat).toNat)).sync)=((at' p.sources ((at' (((at' r_1 t24.toNat).sources).drop ((IntKind.wrap .i64 (t31+1)).toNat)) t42.toNat).toNat)).sync))))then
 aU (((out4.length+[(⟨(at' ((at' r_1 t24.toNat).sources) t31.toNat),(at' (((at' r_1 t24.toNat).sources).drop ((IntKind.wrap .i64 (t31+1)).toNat)) t42.toNat)⟩:ai)].length)*16≤140737488355328)∧(out4.length+[(⟨(at' ((at' r_1 t24.toNat).sources) t31.toNat),(at' (((at' r_1 t24.toNat).sources).drop ((IntKind.wrap .i64 (t31+1)).toNat)) t42.toNat)⟩:ai)].length≤4611686018427387904)) (
 some (.next ((out4++[(⟨(at' ((at' r_1 t24.toNat).sources) t31.toNat),(at' (((at' r_1 t24.toNat).sources).drop ((IntKind.wrap .i64 (t31+1)).toNat)) t42.toNat)⟩:ai)]),(IntKind.wrap .i64 (t42+1)))))
 else
 some (.next (out4,(IntKind.wrap .i64 (t42+1))))))
 else
 some (.done (.brk out4))
def zn (p:aF) (r_1:(List aT)) (t24:Int):((List ai) × Int)→Option (aI ((List ai) × Int) (Ex (List ai) (aI ((List ai) × Int) (Ex (List ai) ((List ai) × Int))))):=
 fun zz=>match zz with
 |(out2,t31)=>
 bif (decide (t31<(((at' r_1 t24.toNat).sources).length:Int)))then
 aU ((0:Int)≤t31∧t31<(((at' r_1 t24.toNat).sources).length:Int)) (
 aU ((0:Int)≤(IntKind.wrap .i64 (t31+1))∧(IntKind.wrap .i64 (t31+1))≤(((at' r_1 t24.toNat).sources).length:Int)) (
 Option.bind (aD (yL p r_1 t24 t31) FUEL (out2,0)) fun o=>match o with
 | .ret v=>some v
 | .brk out5=>
 some (.next (out5,(IntKind.wrap .i64 (t31+1))))))
 else
 some (.done (.brk out2))
def zf (p:aF) (r_1:(List aT)):((List ai) × Int)→Option (aI ((List ai) × Int) (Ex (List ai) ((List ai) × Int))):=
 fun zz=>match zz with
 |(out,t24)=>
 bif (decide (t24<(r_1.length:Int)))then
 aU ((0:Int)≤t24∧t24<(r_1.length:Int)) (
 Option.bind (aD (zn p r_1 t24) FUEL (out,0)) fun o=>match o with
 | .ret v=>some v
 | .brk out3=>
 some (.next (out3,(IntKind.wrap .i64 (t24+1)))))
 else
 some (.done (.brk out))
def gI (p:aF) (s_:State):Option ((List ai) × Int):=
 (eU p s_).bind fun r_=>
 bif (!decide (r_=0))then
 some (([]:List ai),r_)
 else
 (lZ p s_).bind fun r_1=>
 Option.bind (aD (zf p r_1) FUEL (([]:List ai),0)) fun o=>match o with
 | .ret v=>some v
 | .brk out1=>
 (pM out1).bind fun r_2=>
 aU (out1.length=r_2.length) (
 some (r_2,0))
def Ab (s_:(List ai)) (v_:ai):Int→Option (aI Int (Ex Unit Int)):=
 fun t8=>
 bif (decide (t8<(s_.length:Int)))then
 aU ((0:Int)≤t8∧t8<(s_.length:Int)) (
 bif ((decide (v_.e0=((at' s_ t8.toNat).e0))) && ((decide (v_.e1=((at' s_ t8.toNat).e1))) && true))then
 some (.done (.ret t8))
 else
 some (.next (IntKind.wrap .i64 (t8+1))))
 else
 some (.done (.brk ()))
def wE (s_:(List ai)) (v_:ai):Option Int:=
 Option.bind (aD (Ab s_ v_) FUEL (0)) fun o=>match o with
 | .ret v=>some v
 | .brk _=>
 some (-1)
def pF (s_:(List ai)) (v_:ai):Option Bool:=
 (wE s_ v_).bind fun r_=>
 some (decide (0≤r_))
def tL (c:ai) (x1:(List ai)):Option Bool:=
 (pF x1 c).bind fun r_=>
 some (!r_)
def qw (s_:(List ai)) (f_:(List ai)):Int→Option (aI Int (Ex Unit Int)):=
 fun t8=>
 bif (decide (t8<(s_.length:Int)))then
 (tL (at' s_ t8.toNat) f_).bind fun r_=>
 aU ((0:Int)≤t8∧t8<(s_.length:Int)) (
 bif r_ then
 some (.done (.ret t8))
 else
 some (.next (IntKind.wrap .i64 (t8+1))))
 else
 some (.done (.brk ()))
def kH (s_:(List ai)) (f_:(List ai)):Option Int:=
 Option.bind (aD (qw s_ f_) FUEL (0)) fun o=>match o with
 | .ret v=>some v
 | .brk _=>
 some (-1)
def fM (s_:(List ai)) (f_:(List ai)):Option Bool:=
 (kH s_ f_).bind fun r_=>
 some (decide (0≤r_))
def Bc (s_:State) (r_:((List Bool) × Int)) (r_2:((List Bool) × Int)):Int→Option (aI Int (Ex Unit (State × Bool))):=
 fun t103=>
 bif (decide (t103<(r_2.1.length:Int)))then
 aU (((0:Int)≤t103∧t103<(r_.1.length:Int))∧(gB [((at' r_.1 t103.toNat),true)]=true→(0:Int)≤t103∧t103<(r_2.1.length:Int))∧(gB [((bif (at' r_.1 t103.toNat)then(!(at' r_2.1 t103.toNat))else false),false)]=true→(0:Int)≤t103∧t103<(r_2.1.length:Int))∧(gB [((at' r_2.1 t103.toNat),true),((bif (at' r_.1 t103.toNat)then(!(at' r_2.1 t103.toNat))else false),false)]=true→(0:Int)≤t103∧t103<(s_.earthed.length:Int))∧(gB [((bif (at' r_2.1 t103.toNat)then(at' s_.earthed t103.toNat)else false),true),((bif (at' r_.1 t103.toNat)then(!(at' r_2.1 t103.toNat))else false),false)]=true→(0:Int)≤t103∧t103<(r_.1.length:Int))) (
 bif (bif (bif (at' r_.1 t103.toNat)then(!(at' r_2.1 t103.toNat))else false)then true else(bif (bif (at' r_2.1 t103.toNat)then(at' s_.earthed t103.toNat)else false)then(!(at' r_.1 t103.toNat))else false))then
 some (.done (.ret (s_,false)))
 else
 some (.next (IntKind.wrap .i64 (t103+1))))
 else
 some (.done (.brk ()))
def Bh (s_:State) (r_:((List Bool) × Int)) (r_6:((List Bool) × Int)):Int→Option (aI Int (Ex Unit (State × Bool))):=
 fun t1031=>
 bif (decide (t1031<(r_6.1.length:Int)))then
 aU (((0:Int)≤t1031∧t1031<(r_.1.length:Int))∧(gB [((at' r_.1 t1031.toNat),true)]=true→(0:Int)≤t1031∧t1031<(r_6.1.length:Int))∧(gB [((bif (at' r_.1 t1031.toNat)then(!(at' r_6.1 t1031.toNat))else false),false)]=true→(0:Int)≤t1031∧t1031<(r_6.1.length:Int))∧(gB [((at' r_6.1 t1031.toNat),true),((bif (at' r_.1 t1031.toNat)then(!(at' r_6.1 t1031.toNat))else false),false)]=true→(0:Int)≤t1031∧t1031<(s_.earthed.length:Int))∧(gB [((bif (at' r_6.1 t1031.toNat)then(at' s_.earthed t1031.toNat)else false),true),((bif (at' r_.1 t1031.toNat)then(!(at' r_6.1 t1031.toNat))else false),false)]=true→(0:Int)≤t1031∧t1031<(r_.1.length:Int))) (
 bif (bif (bif (at' r_.1 t1031.toNat)then(!(at' r_6.1 t1031.toNat))else false)then true else(bif (bif (at' r_6.1 t1031.toNat)then(at' s_.earthed t1031.toNat)else false)then(!(at' r_.1 t1031.toNat))else false))then
 some (.done (.ret (s_,false)))
 else
 some (.next (IntKind.wrap .i64 (t1031+1))))
 else
 some (.done (.brk ()))
def xN (p:aF) (s_:State) (x:Transfer):Option (State × Bool):=
 (iF p s_).bind fun r_=>
 aU (((0:Int)≤x.watch∧x.watch<(s_.badBus.length:Int))∧(gB [((at' s_.badBus x.watch.toNat),false)]=true→(0:Int)≤x.watch∧x.watch<(r_.1.length:Int))∧(gB [((bif (at' s_.badBus x.watch.toNat)then true else(at' r_.1 x.watch.toNat)),false)]=true→(0:Int)≤x.close∧x.close<(s_.closed.length:Int))∧(gB [((bif (bif (at' s_.badBus x.watch.toNat)then true else(at' r_.1 x.watch.toNat))then true else(at' s_.closed x.close.toNat)),false)]=true→(0:Int)≤x.close∧x.close<(s_.badLink.length:Int))∧(gB [((bif (bif (bif (at' s_.badBus x.watch.toNat)then true else(at' r_.1 x.watch.toNat))then true else(at' s_.closed x.close.toNat))then true else(at' s_.badLink x.close.toNat)),false)]=true→(0:Int)≤x.close∧x.close<(s_.locked.length:Int))) (
 bif (bif (bif (bif (bif (at' s_.badBus x.watch.toNat)then true else(at' r_.1 x.watch.toNat))then true else(at' s_.closed x.close.toNat))then true else(at' s_.badLink x.close.toNat))then true else(at' s_.locked x.close.toNat))then
 some (s_,false)
 else
 (aZ s_.closed).bind fun r_1=>
 aU ((0:Int)≤x.close∧x.close<(r_1.length:Int)) (
 bif (decide (0≤x.open_))then
 aU (((0:Int)≤x.open_∧x.open_<(s_.badLink.length:Int))∧(gB [((at' s_.badLink x.open_.toNat),false)]=true→(0:Int)≤x.open_∧x.open_<(s_.locked.length:Int))) (
 bif (bif (at' s_.badLink x.open_.toNat)then true else(at' s_.locked x.open_.toNat))then
 some (s_,false)
 else
 aU ((0:Int)≤x.open_∧x.open_<((r_1.set x.close.toNat true).length:Int)) (
 (iF p (⟨((r_1.set x.close.toNat true).set x.open_.toNat false),s_.locked,s_.badLink,s_.on_,s_.badSource,s_.earthed,s_.badBus⟩:State)).bind fun r_2=>
 Option.bind (aD (Bc s_ r_ r_2) FUEL (0)) fun o=>match o with
 | .ret v=>some v
 | .brk _=>
 (gI p s_).bind fun r_3=>
 (gI p (⟨((r_1.set x.close.toNat true).set x.open_.toNat false),s_.locked,s_.badLink,s_.on_,s_.badSource,s_.earthed,s_.badBus⟩:State)).bind fun r_4=>
 (bif gB [((!(at' r_2.1 x.watch.toNat)),false)]then fM r_4.1 r_3.1 else some default).bind fun r_5=>
 aU ((0:Int)≤x.watch∧x.watch<(r_2.1.length:Int)) (
 bif (bif (!(at' r_2.1 x.watch.toNat))then true else r_5)then
 some (s_,false)
 else
 some ((⟨((r_1.set x.close.toNat true).set x.open_.toNat false),s_.locked,s_.badLink,s_.on_,s_.badSource,s_.earthed,s_.badBus⟩:State),true))))
 else
 (iF p (⟨(r_1.set x.close.toNat true),s_.locked,s_.badLink,s_.on_,s_.badSource,s_.earthed,s_.badBus⟩:State)).bind fun r_6=>
 Option.bind (aD (Bh s_ r_ r_6) FUEL (0)) fun o=>match o with
 | .ret v=>some v
 | .brk _=>
 (gI p s_).bind fun r_7=>
 (gI p (⟨(r_1.set x.close.toNat true),s_.locked,s_.badLink,s_.on_,s_.badSource,s_.earthed,s_.badBus⟩:State)).bind fun r_8=>
 (bif gB [((!(at' r_6.1 x.watch.toNat)),false)]then fM r_8.1 r_7.1 else some default).bind fun r_9=>
 aU ((0:Int)≤x.watch∧x.watch<(r_6.1.length:Int)) (
 bif (bif (!(at' r_6.1 x.watch.toNat))then true else r_9)then
 some (s_,false)
 else
 some ((⟨(r_1.set x.close.toNat true),s_.locked,s_.badLink,s_.on_,s_.badSource,s_.earthed,s_.badBus⟩:State),true))))
def mr (x28:Int) (x29:(List Bool)) (x291:(List Bool)) (x292:(List Bool)) (x293:(List Bool)) (x294:(List Bool)) (x295:(List Bool)) (x296:(List Bool)) (state:State) (o_:(List Int)):Option (State × (List Int)):=
 aU (((o_.length+[x28].length)*8≤140737488355328)∧(o_.length+[x28].length≤4611686018427387904)) (
 some ((⟨x29,x291,x292,x293,x294,x295,x296⟩:State),(o_++[x28])))
def wV (x1:(List Transfer)) (x2:Int) (x21:(List Source)) (x22:(List Link)) (x23:(List aO)) (state:State) (o0:(List Bool)) (o01:(List Int)) (done:(List Bool)):Int→Option (aI Int (Ex Unit (aI ((List Bool) × (List Int) × (List Bool)) (Ex ((List Bool) × (List Int)) (State × State × (List Int)))))):=
 fun t15=>
 bif (decide (t15<(x1.length:Int)))then
 aU ((0:Int)≤t15∧t15<(x1.length:Int)) (
 aU ((0:Int)≤t15∧t15<(done.length:Int)) (
 bif (at' done t15.toNat)then
 some (.next (IntKind.wrap .i64 (t15+1)))
 else
 (xN (⟨x2,x21,x22,x23⟩:aF) (⟨o0,state.locked,state.badLink,state.on_,state.badSource,state.earthed,state.badBus⟩:State) (at' x1 t15.toNat)).bind fun r_=>
 bif r_.2 then
 aU ((0:Int)≤t15∧t15<(done.length:Int)) (
 (mr t15 r_.1.closed state.locked state.badLink state.on_ state.badSource state.earthed state.badBus (⟨o0,state.locked,state.badLink,state.on_,state.badSource,state.earthed,state.badBus⟩:State) o01).bind fun r_1=>
 some (.done (.ret (.next (r_.1.closed,r_1.2,(done.set t15.toNat true))))))
 else
 some (.next (IntKind.wrap .i64 (t15+1)))))
 else
 some (.done (.brk ()))
def w9 (x1:(List Transfer)) (x2:Int) (x21:(List Source)) (x22:(List Link)) (x23:(List aO)) (state:State):((List Bool) × (List Int) × (List Bool))→Option (aI ((List Bool) × (List Int) × (List Bool)) (Ex ((List Bool) × (List Int)) (State × State × (List Int)))):=
 fun zz=>match zz with
 |(o0,o01,done)=>
 Option.bind (aD (wV x1 x2 x21 x22 x23 state o0 o01 done) FUEL (0)) fun o=>match o with
 | .ret v=>some v
 | .brk _=>
 some (.done (.brk (o0,o01)))
def qZ (x1:(List Transfer)) (x2:Int) (x21:(List Source)) (x22:(List Link)) (x23:(List aO)) (state:State) (state1:State) (o_:(List Int)):Option (State × State × (List Int)):=
 Option.bind (α:=Unit) (
 aU (((0:Int)≤(x1.length:Int))∧((1:Int)*(x1.length:Int)≤281474976710656)∧(((x1.length:Int):Int)≤9223372036854775807)) (
 some ())) fun _=>
 Option.bind (aD (w9 x1 x2 x21 x22 x23 state) FUEL (state.closed,o_,(List.replicate ((x1.length:Int).toNat) (false:Bool)))) fun o=>match o with
 | .ret v=>some v
 | .brk (o02,o03)=>
 some ((⟨o02,state.locked,state.badLink,state.on_,state.badSource,state.earthed,state.badBus⟩:State),(⟨o02,state.locked,state.badLink,state.on_,state.badSource,state.earthed,state.badBus⟩:State),o03)
def oU (p:aF) (s_:State) (l:(List Transfer)):Option (State × (List Int) × Int):=
 (gQ p s_ l).bind fun r_=>
 bif (!decide (r_=0))then
 some ((⟨([]:List Bool),([]:List Bool),([]:List Bool),([]:List Bool),([]:List Bool),([]:List Bool),([]:List Bool)⟩:State),([]:List Int),r_)
 else
 (wz s_).bind fun r_1=>
 (pJ p r_1 l).bind fun r_2=>
 (qZ r_2.1 r_2.2.1 r_2.2.2.1 r_2.2.2.2.1 r_2.2.2.2.2.1 r_1 r_1 ([]:List Int)).bind fun r_3=>
 some ((⟨r_3.1.closed,r_1.locked,r_1.badLink,r_1.on_,r_1.badSource,r_1.earthed,r_1.badBus⟩:State),r_3.2.2,0)
def vV (s_:(List Part)) (v_:Part):Int→Option (aI Int (Ex Unit Int)):=
 fun t8=>
 bif (decide (t8<(s_.length:Int)))then
 aU ((0:Int)≤t8∧t8<(s_.length:Int)) (
 bif ((decide (v_.kind=((at' s_ t8.toNat).kind))) && ((decide (v_.index=((at' s_ t8.toNat).index))) && true))then
 some (.done (.ret t8))
 else
 some (.next (IntKind.wrap .i64 (t8+1))))
 else
 some (.done (.brk ()))
def pu (s_:(List Part)) (v_:Part):Option Int:=
 Option.bind (aD (vV s_ v_) FUEL (0)) fun o=>match o with
 | .ret v=>some v
 | .brk _=>
 some (-1)
def iD (s_:(List Part)) (v_:Part):Option Bool:=
 (pu s_ v_).bind fun r_=>
 some (decide (0≤r_))
def vU (kz:Int) (x1:Int):Option Bool:=
 some (bif (decide (kz<0))then true else(decide (x1≤kz)))
def qy (s_:(List Int)) (f_:Int):Int→Option (aI Int (Ex Unit Int)):=
 fun t8=>
 bif (decide (t8<(s_.length:Int)))then
 (vU (at' s_ t8.toNat) f_).bind fun r_=>
 aU ((0:Int)≤t8∧t8<(s_.length:Int)) (
 bif r_ then
 some (.done (.ret t8))
 else
 some (.next (IntKind.wrap .i64 (t8+1))))
 else
 some (.done (.brk ()))
def j6 (s_:(List Int)) (f_:Int):Option Int:=
 Option.bind (aD (qy s_ f_) FUEL (0)) fun o=>match o with
 | .ret v=>some v
 | .brk _=>
 some (-1)
def iV (s_:(List Int)) (f_:Int):Option Bool:=
 (j6 s_ f_).bind fun r_=>
 some (decide (0≤r_))
def Dz (y:aj) (i:Int):Int→Option (aI Int (Ex Unit Bool)):=
 fun t16=>
 bif (decide (t16<(((at' y.jobs i.toNat).parts).length:Int)))then
 aU ((0:Int)≤t16∧t16<(((at' y.jobs i.toNat).parts).length:Int)) (
 (iD (kU ((at' y.jobs i.toNat).parts) 0 t16.toNat) (at' ((at' y.jobs i.toNat).parts) t16.toNat)).bind fun r_=>
 aU ((0:Int)≤t16∧t16≤(((at' y.jobs i.toNat).parts).length:Int)) (
 bif r_ then
 some (.done (.ret false))
 else
 some (.next (IntKind.wrap .i64 (t16+1)))))
 else
 some (.done (.brk ()))
def zU (y:aj) (i:Int):Option Bool:=
 aU ((0:Int)≤i∧i<(y.jobs.length:Int)) (
 Option.bind (aD (Dz y i) FUEL (0)) fun o=>match o with
 | .ret v=>some v
 | .brk _=>
 (bif gB [((bif (bif (bif (bif (bif (bif (bif (bif (bif (bif (decide (1≤(((at' y.jobs i.toNat).parts).length:Int)))then(decide ((((at' y.jobs i.toNat).parts).length:Int)≤8))else false)then(decide (1≤((at' y.jobs i.toNat).hours)))else false)then(decide (((at' y.jobs i.toNat).hours)≤48))else false)then(decide (0≤((at' y.jobs i.toNat).from_)))else false)then(decide (1≤((at' y.jobs i.toNat).to_)))else false)then(decide (((at' y.jobs i.toNat).to_)≤48))else false)then(decide (((at' y.jobs i.toNat).from_)≤(IntKind.wrap .i64 (((at' y.jobs i.toNat).to_) - ((at' y.jobs i.toNat).hours)))))else false)then(decide (1≤((at' y.jobs i.toNat).people)))else false)then(decide (((at' y.jobs i.toNat).people)≤20))else false)then(decide ((((at' y.jobs i.toNat).after).length:Int)≤8))else false),true)]then iV ((at' y.jobs i.toNat).after) i else some default).bind fun r_1=>
 some (bif (bif (bif (bif (bif (bif (bif (bif (bif (bif (bif (decide (1≤(((at' y.jobs i.toNat).parts).length:Int)))then(decide ((((at' y.jobs i.toNat).parts).length:Int)≤8))else false)then(decide (1≤((at' y.jobs i.toNat).hours)))else false)then(decide (((at' y.jobs i.toNat).hours)≤48))else false)then(decide (0≤((at' y.jobs i.toNat).from_)))else false)then(decide (1≤((at' y.jobs i.toNat).to_)))else false)then(decide (((at' y.jobs i.toNat).to_)≤48))else false)then(decide (((at' y.jobs i.toNat).from_)≤(IntKind.wrap .i64 (((at' y.jobs i.toNat).to_) - ((at' y.jobs i.toNat).hours)))))else false)then(decide (1≤((at' y.jobs i.toNat).people)))else false)then(decide (((at' y.jobs i.toNat).people)≤20))else false)then(decide ((((at' y.jobs i.toNat).after).length:Int)≤8))else false)then(!r_1)else false))
def uJ (s_:State):Option State:=
 aU ((0:Int)≤0∧0<(7:Int)) (
 (aZ s_.closed).bind fun r_=>
 aU ((0:Int)≤1∧1<(7:Int)) (
 (aZ s_.locked).bind fun r_1=>
 aU ((0:Int)≤2∧2<(7:Int)) (
 (aZ s_.badLink).bind fun r_2=>
 aU ((0:Int)≤3∧3<(7:Int)) (
 (aZ s_.on_).bind fun r_3=>
 aU ((0:Int)≤4∧4<(7:Int)) (
 (aZ s_.badSource).bind fun r_4=>
 aU ((0:Int)≤5∧5<(7:Int)) (
 (aZ s_.earthed).bind fun r_5=>
 aU ((0:Int)≤6∧6<(7:Int)) (
 (aZ s_.badBus).bind fun r_6=>
 some (⟨r_,r_1,r_2,r_3,r_4,r_5,r_6⟩:State))))))))
def uK (p:aF) (s_:State) (x:Part) (is:Bool):Option (State × Int):=
 (eU p s_).bind fun r_=>
 bif (!decide (r_=0))then
 some ((⟨([]:List Bool),([]:List Bool),([]:List Bool),([]:List Bool),([]:List Bool),([]:List Bool),([]:List Bool)⟩:State),r_)
 else
 (uJ s_).bind fun r_1=>
 bif (dP x.kind 1)then
 (aS x.index 0 (IntKind.wrap .i64 ((r_1.badBus.length:Int) - 1))).bind fun r_2=>
 bif (!r_2)then
 some ((⟨([]:List Bool),([]:List Bool),([]:List Bool),([]:List Bool),([]:List Bool),([]:List Bool),([]:List Bool)⟩:State),14)
 else
 aU ((0:Int)≤x.index∧x.index<(r_1.badBus.length:Int)) (
 some ((⟨r_1.closed,r_1.locked,r_1.badLink,r_1.on_,r_1.badSource,r_1.earthed,(r_1.badBus.set x.index.toNat is)⟩:State),0))
 else
 bif (dP x.kind 2)then
 (aS x.index 0 (IntKind.wrap .i64 ((r_1.badSource.length:Int) - 1))).bind fun r_3=>
 bif (!r_3)then
 some ((⟨([]:List Bool),([]:List Bool),([]:List Bool),([]:List Bool),([]:List Bool),([]:List Bool),([]:List Bool)⟩:State),14)
 else
 aU ((0:Int)≤x.index∧x.index<(r_1.badSource.length:Int)) (
 some ((⟨r_1.closed,r_1.locked,r_1.badLink,r_1.on_,(r_1.badSource.set x.index.toNat is),r_1.earthed,r_1.badBus⟩:State),0))
 else
 bif (dP x.kind 3)then
 (aS x.index 0 (IntKind.wrap .i64 ((r_1.badLink.length:Int) - 1))).bind fun r_4=>
 bif (!r_4)then
 some ((⟨([]:List Bool),([]:List Bool),([]:List Bool),([]:List Bool),([]:List Bool),([]:List Bool),([]:List Bool)⟩:State),14)
 else
 aU ((0:Int)≤x.index∧x.index<(r_1.badLink.length:Int)) (
 some ((⟨r_1.closed,r_1.locked,(r_1.badLink.set x.index.toNat is),r_1.on_,r_1.badSource,r_1.earthed,r_1.badBus⟩:State),0))
 else
 (aS x.index 0 (-1)).bind fun r_5=>
 bif (!r_5)then
 some ((⟨([]:List Bool),([]:List Bool),([]:List Bool),([]:List Bool),([]:List Bool),([]:List Bool),([]:List Bool)⟩:State),14)
 else
 none
def qp (p:aF) (s_:State) (x:Part):Option (State × Int):=
 (uK p s_ x true).bind fun r_=>
 some (r_.1,r_.2)
def Dw (y:aj) (t33:Int):Int→Option (aI Int (Ex Unit (aI Int (Ex Unit Int)))):=
 fun t45=>
 bif (decide (t45<(((at' y.jobs t33.toNat).parts).length:Int)))then
 aU ((0:Int)≤t45∧t45<(((at' y.jobs t33.toNat).parts).length:Int)) (
 (qp y.plant y.state (at' ((at' y.jobs t33.toNat).parts) t45.toNat)).bind fun r_2=>
 bif (!decide (r_2.2=0))then
 some (.done (.ret (.done (.ret r_2.2))))
 else
 some (.next (IntKind.wrap .i64 (t45+1))))
 else
 some (.done (.brk ()))
def DI (y:aj):Int→Option (aI Int (Ex Unit Int)):=
 fun t33=>
 bif (decide (t33<(y.jobs.length:Int)))then
 aU ((0:Int)≤t33∧t33<(y.jobs.length:Int)) (
 (zU y t33).bind fun r_1=>
 bif (!r_1)then
 some (.done (.ret 120))
 else
 Option.bind (aD (Dw y t33) FUEL (0)) fun o=>match o with
 | .ret v=>some v
 | .brk _=>
 some (.next (IntKind.wrap .i64 (t33+1))))
 else
 some (.done (.brk ()))
def iJ (y:aj):Option Int:=
 (oU y.plant y.state y.transfers).bind fun r_=>
 bif (!decide (r_.2.2=0))then
 some r_.2.2
 else
 bif (decide (5<(y.jobs.length:Int)))then
 some 2
 else
 Option.bind (aD (DI y) FUEL (0)) fun o=>match o with
 | .ret v=>some v
 | .brk _=>
 bif (bif (decide (y.people<0))then true else(decide (1000<y.people)))then
 some 1
 else
 some 0
def vQ (l:(List Int)):Option (List Int):=
 aU ((l.length*8≤140737488355328)∧(l.length≤4611686018427387904)) (
 some l)
def o9 (l:(List Source)):Option (List Source):=
 aU ((l.length*40≤140737488355328)∧(l.length≤4611686018427387904)) (
 some l)
def tu (l:(List lI)):Option (List lI):=
 aU ((l.length*16≤140737488355328)∧(l.length≤4611686018427387904)) (
 some l)
def vv (x:Link):Option Link:=
 (tu x.trip).bind fun r_=>
 some (⟨x.a,x.b,x.kind,x.most,x.ohm,r_⟩:Link)
def y7 (l:(List Link)):((List Link) × Int)→Option (aI ((List Link) × Int) (Ex (List Link) (List Link))):=
 fun zz=>match zz with
 |(out,i)=>
 bif (decide (i<(l.length:Int)))then
 (vv (at' l i.toNat)).bind fun r_=>
 aU (((0:Int)≤i∧i<(l.length:Int))∧((out.length+[r_].length)*64≤140737488355328)∧(out.length+[r_].length≤4611686018427387904)) (
 some (.next ((out++[r_]),(IntKind.wrap .i64 (i+1)))))
 else
 some (.done (.brk out))
def tq (l:(List Link)):Option (List Link):=
 Option.bind (aD (y7 l) FUEL (([]:List Link),0)) fun o=>match o with
 | .ret v=>some v
 | .brk out1=>
 some out1
def sZ (l:(List aO)):Option (List aO):=
 aU ((l.length*32≤140737488355328)∧(l.length≤4611686018427387904)) (
 some l)
def tF (x:aF):Option aF:=
 (o9 x.sources).bind fun r_=>
 (tq x.links).bind fun r_1=>
 (sZ x.racks).bind fun r_2=>
 some (⟨x.buses,r_,r_1,r_2⟩:aF)
def dz (l:(List Bool)):Option (List Bool):=
 aU ((l.length*1≤140737488355328)∧(l.length≤4611686018427387904)) (
 some l)
def gK (x:State):Option State:=
 (dz x.closed).bind fun r_=>
 (dz x.locked).bind fun r_1=>
 (dz x.badLink).bind fun r_2=>
 (dz x.on_).bind fun r_3=>
 (dz x.badSource).bind fun r_4=>
 (dz x.earthed).bind fun r_5=>
 (dz x.badBus).bind fun r_6=>
 some (⟨r_,r_1,r_2,r_3,r_4,r_5,r_6⟩:State)
def mo (l:(List Part)):Option (List Part):=
 aU ((l.length*16≤140737488355328)∧(l.length≤4611686018427387904)) (
 some l)
def Fb (y:bE):((List Transfer) × Int)→Option (aI ((List Transfer) × Int) (Ex (List Transfer) aj)):=
 fun zz=>match zz with
 |(x11,i)=>
 bif (decide (i<(y.transfers.length:Int)))then
 aU (((0:Int)≤i∧i<(y.transfers.length:Int))∧((x11.length+[(at' y.transfers i.toNat)].length)*24≤140737488355328)∧(x11.length+[(at' y.transfers i.toNat)].length≤4611686018427387904)) (
 some (.next ((x11++[(at' y.transfers i.toNat)]),(IntKind.wrap .i64 (i+1)))))
 else
 some (.done (.brk x11))
def EK (y:bE):((List aC) × Int)→Option (aI ((List aC) × Int) (Ex (List aC) aj)):=
 fun zz=>match zz with
 |(x12,i1)=>
 bif (decide (i1<(y.jobs.length:Int)))then
 aU ((0:Int)≤i1∧i1<(y.jobs.length:Int)) (
 (mo ((at' y.jobs i1.toNat).parts)).bind fun r_2=>
 (vQ ((at' y.jobs i1.toNat).after)).bind fun r_3=>
 aU (((x12.length+[(⟨r_2,(at' y.jobs i1.toNat).hours,(at' y.jobs i1.toNat).from_,(at' y.jobs i1.toNat).to_,(at' y.jobs i1.toNat).people,r_3⟩:aC)].length)*80≤140737488355328)∧(x12.length+[(⟨r_2,(at' y.jobs i1.toNat).hours,(at' y.jobs i1.toNat).from_,(at' y.jobs i1.toNat).to_,(at' y.jobs i1.toNat).people,r_3⟩:aC)].length≤4611686018427387904)) (
 some (.next ((x12++[(⟨r_2,(at' y.jobs i1.toNat).hours,(at' y.jobs i1.toNat).from_,(at' y.jobs i1.toNat).to_,(at' y.jobs i1.toNat).people,r_3⟩:aC)]),(IntKind.wrap .i64 (i1+1))))))
 else
 some (.done (.brk x12))
def eD (y:bE):Option aj:=
 (tF y.plant).bind fun r_=>
 (gK y.state).bind fun r_1=>
 Option.bind (aD (Fb y) FUEL (([]:List Transfer),0)) fun o=>match o with
 | .ret v=>some v
 | .brk x111=>
 Option.bind (aD (EK y) FUEL (([]:List aC),0)) fun o=>match o with
 | .ret v=>some v
 | .brk x121=>
 some (⟨r_,r_1,x111,x121,y.people,y.redundant⟩:aj)
def Du (x:Link):Int→Option (aI Int (Ex Unit Bool)):=
 fun i=>
 bif (decide (i<(x.trip.length:Int)))then
 aU ((0:Int)≤i∧i<(x.trip.length:Int)) (
 bif (bif (bif (bif (decide (((at' x.trip i.toNat).amps)<1))then true else(decide (1000000<((at' x.trip i.toNat).amps))))then true else(decide (((at' x.trip i.toNat).millis)<1)))then true else(decide (100000<((at' x.trip i.toNat).millis))))then
 some (.done (.ret false))
 else
 aU ((gB [((decide (0<i)),true)]=true→(0:Int)≤(IntKind.wrap .i64 (i - 1))∧(IntKind.wrap .i64 (i - 1))<(x.trip.length:Int))∧(gB [((decide (((at' x.trip i.toNat).amps)≤((at' x.trip ((IntKind.wrap .i64 (i - 1)).toNat)).amps))),false),((decide (0<i)),true)]=true→(0:Int)≤(IntKind.wrap .i64 (i - 1))∧(IntKind.wrap .i64 (i - 1))<(x.trip.length:Int))) (
 bif (bif (decide (0<i))then(bif (decide (((at' x.trip i.toNat).amps)≤((at' x.trip ((IntKind.wrap .i64 (i - 1)).toNat)).amps)))then true else(decide (((at' x.trip ((IntKind.wrap .i64 (i - 1)).toNat)).millis)≤((at' x.trip i.toNat).millis))))else false)then
 some (.done (.ret false))
 else
 some (.next (IntKind.wrap .i64 (i+1)))))
 else
 some (.done (.brk ()))
def Af (p:aF) (x:Link):Option Bool:=
 bif (bif (bif (bif (bif (bif (bif (bif (bif (bif (bif (decide (x.a<0))then true else(decide (p.buses≤x.a)))then true else(decide (x.b<0)))then true else(decide (p.buses≤x.b)))then true else(decide (x.a=x.b)))then true else(decide (x.kind<1)))then true else(decide (3<x.kind)))then true else(decide (x.most<1)))then true else(decide (100000<x.most)))then true else(decide (x.ohm<10)))then true else(decide (100000<x.ohm)))then
 some false
 else
 bif (bif (decide (6<(x.trip.length:Int)))then true else(bif (decide (0<(x.trip.length:Int)))then(!decide (x.kind=3))else false))then
 some false
 else
 Option.bind (aD (Du x) FUEL (0)) fun o=>match o with
 | .ret v=>some v
 | .brk _=>
 some true
def BF (p:aF):Int→Option (aI Int (Ex Unit Int)):=
 fun i=>
 bif (decide (i<(p.sources.length:Int)))then
 aU ((0:Int)≤i∧i<(p.sources.length:Int)) (
 bif (bif (bif (bif (bif (bif (bif (bif (bif (bif (decide (((at' p.sources i.toNat).bus)<0))then true else(decide (p.buses≤((at' p.sources i.toNat).bus))))then true else(decide (((at' p.sources i.toNat).kind)<1)))then true else(decide (3<((at' p.sources i.toNat).kind))))then true else(decide (((at' p.sources i.toNat).power)<1)))then true else(decide (100000<((at' p.sources i.toNat).power))))then true else(decide (((at' p.sources i.toNat).sync)<0)))then true else(decide (8<((at' p.sources i.toNat).sync))))then true else(decide (((at' p.sources i.toNat).ohm)<10)))then true else(decide (100000<((at' p.sources i.toNat).ohm))))then
 some (.done (.ret 11))
 else
 some (.next (IntKind.wrap .i64 (i+1))))
 else
 some (.done (.brk ()))
def CK (p:aF):Int→Option (aI Int (Ex Unit Int)):=
 fun i1=>
 bif (decide (i1<(p.links.length:Int)))then
 (Af p (at' p.links i1.toNat)).bind fun r_=>
 aU ((0:Int)≤i1∧i1<(p.links.length:Int)) (
 bif (!r_)then
 some (.done (.ret 12))
 else
 some (.next (IntKind.wrap .i64 (i1+1))))
 else
 some (.done (.brk ()))
def BN (p:aF):Int→Option (aI Int (Ex Unit Int)):=
 fun i2=>
 bif (decide (i2<(p.racks.length:Int)))then
 aU ((0:Int)≤i2∧i2<(p.racks.length:Int)) (
 bif (decide ((((at' p.racks i2.toNat).feeds).e1)=(-1)))then
 bif (bif (bif (bif (bif (bif (bif (bif (bif (decide ((((at' p.racks i2.toNat).feeds).e0)<0))then true else(decide (p.buses≤(((at' p.racks i2.toNat).feeds).e0))))then true else(decide ((((at' p.racks i2.toNat).feeds).e1)<(-1))))then true else(decide (p.buses≤(((at' p.racks i2.toNat).feeds).e1))))then true else(decide ((((at' p.racks i2.toNat).feeds).e0)=(((at' p.racks i2.toNat).feeds).e1))))then true else(decide (((at' p.racks i2.toNat).power)<1)))then true else(decide (100000<((at' p.racks i2.toNat).power))))then true else(decide (((at' p.racks i2.toNat).paths)<0)))then true else(decide (1<((at' p.racks i2.toNat).paths))))then
 some (.done (.ret 13))
 else
 some (.next (IntKind.wrap .i64 (i2+1)))
 else
 bif (bif (bif (bif (bif (bif (bif (bif (bif (decide ((((at' p.racks i2.toNat).feeds).e0)<0))then true else(decide (p.buses≤(((at' p.racks i2.toNat).feeds).e0))))then true else(decide ((((at' p.racks i2.toNat).feeds).e1)<(-1))))then true else(decide (p.buses≤(((at' p.racks i2.toNat).feeds).e1))))then true else(decide ((((at' p.racks i2.toNat).feeds).e0)=(((at' p.racks i2.toNat).feeds).e1))))then true else(decide (((at' p.racks i2.toNat).power)<1)))then true else(decide (100000<((at' p.racks i2.toNat).power))))then true else(decide (((at' p.racks i2.toNat).paths)<0)))then true else(decide (2<((at' p.racks i2.toNat).paths))))then
 some (.done (.ret 13))
 else
 some (.next (IntKind.wrap .i64 (i2+1))))
 else
 some (.done (.brk ()))
def qA (p:aF):Option Int:=
 bif (bif (decide (p.buses<1))then true else(decide (24<p.buses)))then
 some 10
 else
 bif (decide (8<(p.sources.length:Int)))then
 some 11
 else
 Option.bind (aD (BF p) FUEL (0)) fun o=>match o with
 | .ret v=>some v
 | .brk _=>
 bif (decide (40<(p.links.length:Int)))then
 some 12
 else
 Option.bind (aD (CK p) FUEL (0)) fun o=>match o with
 | .ret v=>some v
 | .brk _=>
 bif (decide (24<(p.racks.length:Int)))then
 some 13
 else
 Option.bind (aD (BN p) FUEL (0)) fun o=>match o with
 | .ret v=>some v
 | .brk _=>
 some 0
def CW (p:aF) (s_:State):Int→Option (aI Int (Ex Unit Bool)):=
 fun i=>
 bif (decide (i<(p.links.length:Int)))then
 aU (((0:Int)≤i∧i<(p.links.length:Int))∧(gB [((decide (((at' p.links i.toNat).kind)=1)),true)]=true→(0:Int)≤i∧i<(s_.closed.length:Int))∧(gB [((!(at' s_.closed i.toNat)),false),((decide (((at' p.links i.toNat).kind)=1)),true)]=true→(0:Int)≤i∧i<(s_.locked.length:Int))) (
 bif (bif (decide (((at' p.links i.toNat).kind)=1))then(bif (!(at' s_.closed i.toNat))then true else(at' s_.locked i.toNat))else false)then
 some (.done (.ret false))
 else
 some (.next (IntKind.wrap .i64 (i+1))))
 else
 some (.done (.brk ()))
def xV (p:aF) (s_:State):Option Bool:=
 bif (bif (bif (bif (bif (bif (bif (!decide ((s_.closed.length:Int)=(p.links.length:Int)))then true else(!decide ((s_.locked.length:Int)=(p.links.length:Int))))then true else(!decide ((s_.badLink.length:Int)=(p.links.length:Int))))then true else(!decide ((s_.on_.length:Int)=(p.sources.length:Int))))then true else(!decide ((s_.badSource.length:Int)=(p.sources.length:Int))))then true else(!decide ((s_.earthed.length:Int)=p.buses)))then true else(!decide ((s_.badBus.length:Int)=p.buses)))then
 some false
 else
 Option.bind (aD (CW p s_) FUEL (0)) fun o=>match o with
 | .ret v=>some v
 | .brk _=>
 some true
def fe (p:aF) (s_:State):Option Int:=
 (qA p).bind fun r_=>
 (bif gB [((decide (r_=0)),true)]then xV p s_ else some default).bind fun r_1=>
 bif (bif (decide (r_=0))then(!r_1)else false)then
 some 9
 else
 some r_
def pV (p:aF) (i:Int):Option Bool:=
 aU (gB [((bif (decide (0≤i))then(decide (i<(p.links.length:Int)))else false),true)]=true→(0:Int)≤i∧i<(p.links.length:Int)) (
 some (bif (bif (decide (0≤i))then(decide (i<(p.links.length:Int)))else false)then(!decide (((at' p.links i.toNat).kind)=1))else false))
def qc (p:aF) (l:(List Transfer)):Int→Option (aI Int (Ex Unit Int)):=
 fun i=>
 bif (decide (i<(l.length:Int)))then
 aU ((0:Int)≤i∧i<(l.length:Int)) (
 (bif gB [((bif (decide (((at' l i.toNat).watch)<0))then true else(decide (p.buses≤((at' l i.toNat).watch)))),false)]then pV p ((at' l i.toNat).close)else some default).bind fun r_1=>
 (bif gB [((!decide (((at' l i.toNat).open_)=(-1))),true),((bif (bif (decide (((at' l i.toNat).watch)<0))then true else(decide (p.buses≤((at' l i.toNat).watch))))then true else(!r_1)),false)]then pV p ((at' l i.toNat).open_)else some default).bind fun r_2=>
 bif (bif (bif (bif (decide (((at' l i.toNat).watch)<0))then true else(decide (p.buses≤((at' l i.toNat).watch))))then true else(!r_1))then true else(bif (!decide (((at' l i.toNat).open_)=(-1)))then(bif (!r_2)then true else(decide (((at' l i.toNat).open_)=((at' l i.toNat).close))))else false))then
 some (.done (.ret 1))
 else
 some (.next (IntKind.wrap .i64 (i+1))))
 else
 some (.done (.brk ()))
def gV (p:aF) (s_:State) (l:(List Transfer)):Option Int:=
 (fe p s_).bind fun r_=>
 bif (!decide (r_=0))then
 some r_
 else
 bif (decide (16<(l.length:Int)))then
 some 1
 else
 Option.bind (aD (qc p l) FUEL (0)) fun o=>match o with
 | .ret v=>some v
 | .brk _=>
 some 0
def kY (p:aF) (s_:State) (kz:Int):Option Bool:=
 aU (((0:Int)≤kz∧kz<(s_.on_.length:Int))∧(gB [((at' s_.on_ kz.toNat),true)]=true→(0:Int)≤kz∧kz<(s_.badSource.length:Int))∧(gB [((bif (at' s_.on_ kz.toNat)then(!(at' s_.badSource kz.toNat))else false),true)]=true→(0:Int)≤kz∧kz<(p.sources.length:Int))∧(gB [((bif (at' s_.on_ kz.toNat)then(!(at' s_.badSource kz.toNat))else false),true)]=true→(0:Int)≤(at' p.sources kz.toNat).bus∧(at' p.sources kz.toNat).bus<(s_.badBus.length:Int))) (
 some (bif (bif (at' s_.on_ kz.toNat)then(!(at' s_.badSource kz.toNat))else false)then(!(at' s_.badBus (((at' p.sources kz.toNat).bus).toNat)))else false))
def qQ (p:aF) (s_:State) (i:Int):Option Bool:=
 aU (((0:Int)≤i∧i<(s_.closed.length:Int))∧(gB [((at' s_.closed i.toNat),true)]=true→(0:Int)≤i∧i<(s_.badLink.length:Int))∧(gB [((bif (at' s_.closed i.toNat)then(!(at' s_.badLink i.toNat))else false),true)]=true→(0:Int)≤i∧i<(p.links.length:Int))∧(gB [((bif (at' s_.closed i.toNat)then(!(at' s_.badLink i.toNat))else false),true)]=true→(0:Int)≤(at' p.links i.toNat).a∧(at' p.links i.toNat).a<(s_.badBus.length:Int))∧(gB [((bif (bif (at' s_.closed i.toNat)then(!(at' s_.badLink i.toNat))else false)then(!(at' s_.badBus (((at' p.links i.toNat).a).toNat)))else false),true)]=true→(0:Int)≤i∧i<(p.links.length:Int))∧(gB [((bif (bif (at' s_.closed i.toNat)then(!(at' s_.badLink i.toNat))else false)then(!(at' s_.badBus (((at' p.links i.toNat).a).toNat)))else false),true)]=true→(0:Int)≤(at' p.links i.toNat).b∧(at' p.links i.toNat).b<(s_.badBus.length:Int))) (
 some (bif (bif (bif (at' s_.closed i.toNat)then(!(at' s_.badLink i.toNat))else false)then(!(at' s_.badBus (((at' p.links i.toNat).a).toNat)))else false)then(!(at' s_.badBus (((at' p.links i.toNat).b).toNat)))else false))
def CF (p:aF) (s_:State) (b:Int):((List Bool) × Int)→Option (aI ((List Bool) × Int) (Ex (List Bool) (aI ((List Bool) × Int) (Ex (List Bool) (List Bool))))):=
 fun zz=>match zz with
 |(out2,i)=>
 bif (decide (i<(p.links.length:Int)))then
 aU ((0:Int)≤i∧i<(p.links.length:Int)) (
 (qQ p s_ i).bind fun r_=>
 aU ((gB [(r_,true)]=true→(0:Int)≤(at' p.links i.toNat).a∧(at' p.links i.toNat).a<(out2.length:Int))∧(gB [((at' out2 (((at' p.links i.toNat).a).toNat)),false),(r_,true)]=true→(0:Int)≤(at' p.links i.toNat).b∧(at' p.links i.toNat).b<(out2.length:Int))) (
 bif (bif r_ then(bif (at' out2 (((at' p.links i.toNat).a).toNat))then true else(at' out2 (((at' p.links i.toNat).b).toNat)))else false)then
 aU ((0:Int)≤(at' p.links i.toNat).a∧(at' p.links i.toNat).a<(out2.length:Int)) (
 aU ((0:Int)≤(at' p.links i.toNat).b∧(at' p.links i.toNat).b<((out2.set (((at' p.links i.toNat).a).toNat) true).length:Int)) (
 some (.next (((out2.set (((at' p.links i.toNat).a).toNat) true).set (((at' p.links i.toNat).b).toNat) true),(IntKind.wrap .i64 (i+1))))))
 else
 some (.next (out2,(IntKind.wrap .i64 (i+1))))))
 else
 some (.done (.brk out2))
def Be (p:aF) (s_:State) (b:Int):((List Bool) × Int)→Option (aI ((List Bool) × Int) (Ex (List Bool) (List Bool))):=
 fun zz=>match zz with
 |(out,n)=>
 bif (decide (n<p.buses))then
 Option.bind (aD (CF p s_ b) FUEL (out,0)) fun o=>match o with
 | .ret v=>some v
 | .brk out3=>
 some (.next (out3,(IntKind.wrap .i64 (n+1))))
 else
 some (.done (.brk out))
def kW (p:aF) (s_:State) (b:Int):Option (List Bool):=
 aU (((0:Int)≤p.buses)∧((1:Int)*p.buses≤281474976710656)∧((p.buses:Int)≤9223372036854775807)) (
 aU ((0:Int)≤b∧b<((List.replicate p.buses.toNat (false:Bool)).length:Int)) (
 Option.bind (aD (Be p s_ b) FUEL (((List.replicate p.buses.toNat (false:Bool)).set b.toNat true),0)) fun o=>match o with
 | .ret v=>some v
 | .brk out1=>
 some out1))
def DF (p:aF) (r_2:(List Bool)):((List Bool) × Int)→Option (aI ((List Bool) × Int) (Ex (List Bool) (aI ((List Bool) × Int) (Ex (List Bool) ((List Bool) × Int))))):=
 fun zz=>match zz with
 |(out2,b)=>
 bif (decide (b<p.buses))then
 aU (((0:Int)≤b∧b<(out2.length:Int))∧(gB [((at' out2 b.toNat),false)]=true→(0:Int)≤b∧b<(r_2.length:Int))) (
 some (.next ((out2.set b.toNat (bif (at' out2 b.toNat)then true else(at' r_2 b.toNat))),(IntKind.wrap .i64 (b+1)))))
 else
 some (.done (.brk out2))
def Dt (p:aF) (s_:State):((List Bool) × Int)→Option (aI ((List Bool) × Int) (Ex (List Bool) ((List Bool) × Int))):=
 fun zz=>match zz with
 |(out,kz)=>
 bif (decide (kz<(p.sources.length:Int)))then
 (kY p s_ kz).bind fun r_1=>
 bif (!r_1)then
 some (.next (out,(IntKind.wrap .i64 (kz+1))))
 else
 (kW p s_ ((at' p.sources kz.toNat).bus)).bind fun r_2=>
 aU ((0:Int)≤kz∧kz<(p.sources.length:Int)) (
 Option.bind (aD (DF p r_2) FUEL (out,0)) fun o=>match o with
 | .ret v=>some v
 | .brk out3=>
 some (.next (out3,(IntKind.wrap .i64 (kz+1)))))
 else
 some (.done (.brk out))
def iL (p:aF) (s_:State):Option ((List Bool) × Int):=
 (fe p s_).bind fun r_=>
 bif (!decide (r_=0))then
 some (([]:List Bool),r_)
 else
 aU (((0:Int)≤p.buses)∧((1:Int)*p.buses≤281474976710656)∧((p.buses:Int)≤9223372036854775807)) (
 Option.bind (aD (Dt p s_) FUEL ((List.replicate p.buses.toNat (false:Bool)),0)) fun o=>match o with
 | .ret v=>some v
 | .brk out1=>
 some (out1,0))
def yx (a:Source) (b:Source):Option Bool:=
 some (bif (!decide (a.sync=b.sync))then true else(decide (a.sync=0)))
def zi (p:aF) (s_:State) (i:Int):((List ai) × Int)→Option (aI ((List ai) × Int) (Ex (List ai) (aI ((List ai) × Int) (Ex (List ai) ((List ai) × Int))))):=
 fun zz=>match zz with
 |(out2,kz)=>
 bif (decide (kz<(p.sources.length:Int)))then
 (kY p s_ i).bind fun r_1=>
 (bif gB [(r_1,true)]then kY p s_ kz else some default).bind fun r_2=>
 (bif gB [((bif r_1 then r_2 else false),true)]then kW p s_ ((at' p.sources i.toNat).bus)else some default).bind fun r_3=>
 (bif gB [((bif (bif r_1 then r_2 else false)then(at' r_3 (((at' p.sources kz.toNat).bus).toNat))else false),true)]then yx (at' p.sources i.toNat) (at' p.sources kz.toNat)else some default).bind fun r_4=>
 aU ((gB [((bif r_1 then r_2 else false),true)]=true→(0:Int)≤i∧i<(p.sources.length:Int))∧(gB [((bif r_1 then r_2 else false),true)]=true→(0:Int)≤kz∧kz<(p.sources.length:Int))∧(gB [((bif r_1 then r_2 else false),true)]=true→(0:Int)≤(at' p.sources kz.toNat).bus∧(at' p.sources kz.toNat).bus<(r_3.length:Int))∧(gB [((bif (bif r_1 then r_2 else false)then(at' r_3 (((at' p.sources kz.toNat).bus).toNat))else false),true)]=true→(0:Int)≤i∧i<(p.sources.length:Int))∧(gB [((bif (bif r_1 then r_2 else false)then(at' r_3 (((at' p.sources kz.toNat).bus).toNat))else false),true)]=true→(0:Int)≤kz∧kz<(p.sources.length:Int))) (
 bif (bif (bif (bif r_1 then r_2 else false)then(at' r_3 (((at' p.sources kz.toNat).bus).toNat))else false)then r_4 else false)then
 aU (((out2.length+[(⟨i,kz⟩:ai)].length)*16≤140737488355328)∧(out2.length+[(⟨i,kz⟩:ai)].length≤4611686018427387904)) (
 some (.next ((out2++[(⟨i,kz⟩:ai)]),(IntKind.wrap .i64 (kz+1)))))
 else
 some (.next (out2,(IntKind.wrap .i64 (kz+1)))))
 else
 some (.done (.brk out2))
def yV (p:aF) (s_:State):((List ai) × Int)→Option (aI ((List ai) × Int) (Ex (List ai) ((List ai) × Int))):=
 fun zz=>match zz with
 |(out,i)=>
 bif (decide (i<(p.sources.length:Int)))then
 Option.bind (aD (zi p s_ i) FUEL (out,(IntKind.wrap .i64 (i+1)))) fun o=>match o with
 | .ret v=>some v
 | .brk out3=>
 some (.next (out3,(IntKind.wrap .i64 (i+1))))
 else
 some (.done (.brk out))
def fD (p:aF) (s_:State):Option ((List ai) × Int):=
 (fe p s_).bind fun r_=>
 bif (!decide (r_=0))then
 some (([]:List ai),r_)
 else
 Option.bind (aD (yV p s_) FUEL (([]:List ai),0)) fun o=>match o with
 | .ret v=>some v
 | .brk out1=>
 some (out1,0)
def ER (p:aF) (s_:State) (r_:((List Bool) × Int)) (r_2:((List Bool) × Int)):(Bool × Int)→Option (aI (Bool × Int) (Ex Bool (State × Bool))):=
 fun zz=>match zz with
 |(can,b)=>
 bif (decide (b<p.buses))then
 aU (((0:Int)≤b∧b<(r_.1.length:Int))∧(gB [((at' r_.1 b.toNat),true)]=true→(0:Int)≤b∧b<(r_2.1.length:Int))∧(gB [((bif (at' r_.1 b.toNat)then(!(at' r_2.1 b.toNat))else false),false)]=true→(0:Int)≤b∧b<(r_2.1.length:Int))∧(gB [((at' r_2.1 b.toNat),true),((bif (at' r_.1 b.toNat)then(!(at' r_2.1 b.toNat))else false),false)]=true→(0:Int)≤b∧b<(s_.earthed.length:Int))∧(gB [((bif (at' r_2.1 b.toNat)then(at' s_.earthed b.toNat)else false),true),((bif (at' r_.1 b.toNat)then(!(at' r_2.1 b.toNat))else false),false)]=true→(0:Int)≤b∧b<(r_.1.length:Int))) (
 bif (bif (bif (at' r_.1 b.toNat)then(!(at' r_2.1 b.toNat))else false)then true else(bif (bif (at' r_2.1 b.toNat)then(at' s_.earthed b.toNat)else false)then(!(at' r_.1 b.toNat))else false))then
 some (.next (false,(IntKind.wrap .i64 (b+1))))
 else
 some (.next (can,(IntKind.wrap .i64 (b+1)))))
 else
 some (.done (.brk can))
def Ez (r_3:((List ai) × Int)) (r_4:((List ai) × Int)) (i:Int):(Bool × Int)→Option (aI (Bool × Int) (Ex Bool (aI (Bool × Int) (Ex Bool (State × Bool))))):=
 fun zz=>match zz with
 |(there,kz)=>
 bif (decide (kz<(r_3.1.length:Int)))then
 aU ((gB [(there,false)]=true→(0:Int)≤kz∧kz<(r_3.1.length:Int))∧(gB [(there,false)]=true→(0:Int)≤i∧i<(r_4.1.length:Int))) (
 some (.next ((bif there then true else((decide (((at' r_3.1 kz.toNat).e0)=((at' r_4.1 i.toNat).e0))) && ((decide (((at' r_3.1 kz.toNat).e1)=((at' r_4.1 i.toNat).e1))) && true))),(IntKind.wrap .i64 (kz+1)))))
 else
 some (.done (.brk there))
def Gl (r_3:((List ai) × Int)) (r_4:((List ai) × Int)):(Bool × Int)→Option (aI (Bool × Int) (Ex Bool (State × Bool))):=
 fun zz=>match zz with
 |(can2,i)=>
 bif (decide (i<(r_4.1.length:Int)))then
 Option.bind (aD (Ez r_3 r_4 i) FUEL (false,0)) fun o=>match o with
 | .ret v=>some v
 | .brk there1=>
 some (.next ((bif can2 then there1 else false),(IntKind.wrap .i64 (i+1))))
 else
 some (.done (.brk can2))
def Fv (p:aF) (s_:State) (r_:((List Bool) × Int)) (r_5:((List Bool) × Int)):(Bool × Int)→Option (aI (Bool × Int) (Ex Bool (State × Bool))):=
 fun zz=>match zz with
 |(can4,b1)=>
 bif (decide (b1<p.buses))then
 aU (((0:Int)≤b1∧b1<(r_.1.length:Int))∧(gB [((at' r_.1 b1.toNat),true)]=true→(0:Int)≤b1∧b1<(r_5.1.length:Int))∧(gB [((bif (at' r_.1 b1.toNat)then(!(at' r_5.1 b1.toNat))else false),false)]=true→(0:Int)≤b1∧b1<(r_5.1.length:Int))∧(gB [((at' r_5.1 b1.toNat),true),((bif (at' r_.1 b1.toNat)then(!(at' r_5.1 b1.toNat))else false),false)]=true→(0:Int)≤b1∧b1<(s_.earthed.length:Int))∧(gB [((bif (at' r_5.1 b1.toNat)then(at' s_.earthed b1.toNat)else false),true),((bif (at' r_.1 b1.toNat)then(!(at' r_5.1 b1.toNat))else false),false)]=true→(0:Int)≤b1∧b1<(r_.1.length:Int))) (
 bif (bif (bif (at' r_.1 b1.toNat)then(!(at' r_5.1 b1.toNat))else false)then true else(bif (bif (at' r_5.1 b1.toNat)then(at' s_.earthed b1.toNat)else false)then(!(at' r_.1 b1.toNat))else false))then
 some (.next (false,(IntKind.wrap .i64 (b1+1))))
 else
 some (.next (can4,(IntKind.wrap .i64 (b1+1)))))
 else
 some (.done (.brk can4))
def Fe (r_6:((List ai) × Int)) (r_7:((List ai) × Int)) (i1:Int):(Bool × Int)→Option (aI (Bool × Int) (Ex Bool (aI (Bool × Int) (Ex Bool (State × Bool))))):=
 fun zz=>match zz with
 |(there2,kz1)=>
 bif (decide (kz1<(r_6.1.length:Int)))then
 aU ((gB [(there2,false)]=true→(0:Int)≤kz1∧kz1<(r_6.1.length:Int))∧(gB [(there2,false)]=true→(0:Int)≤i1∧i1<(r_7.1.length:Int))) (
 some (.next ((bif there2 then true else((decide (((at' r_6.1 kz1.toNat).e0)=((at' r_7.1 i1.toNat).e0))) && ((decide (((at' r_6.1 kz1.toNat).e1)=((at' r_7.1 i1.toNat).e1))) && true))),(IntKind.wrap .i64 (kz1+1)))))
 else
 some (.done (.brk there2))
def E5 (r_6:((List ai) × Int)) (r_7:((List ai) × Int)):(Bool × Int)→Option (aI (Bool × Int) (Ex Bool (State × Bool))):=
 fun zz=>match zz with
 |(can6,i1)=>
 bif (decide (i1<(r_7.1.length:Int)))then
 Option.bind (aD (Fe r_6 r_7 i1) FUEL (false,0)) fun o=>match o with
 | .ret v=>some v
 | .brk there3=>
 some (.next ((bif can6 then there3 else false),(IntKind.wrap .i64 (i1+1))))
 else
 some (.done (.brk can6))
def Di (p:aF) (s_:State) (x:Transfer):Option (State × Bool):=
 (iL p s_).bind fun r_=>
 (gK s_).bind fun r_1=>
 aU ((0:Int)≤x.close∧x.close<(r_1.closed.length:Int)) (
 aU (((0:Int)≤x.watch∧x.watch<(s_.badBus.length:Int))∧(gB [((!(at' s_.badBus x.watch.toNat)),true)]=true→(0:Int)≤x.watch∧x.watch<(r_.1.length:Int))∧(gB [((bif (!(at' s_.badBus x.watch.toNat))then(!(at' r_.1 x.watch.toNat))else false),true)]=true→(0:Int)≤x.close∧x.close<(s_.closed.length:Int))∧(gB [((bif (bif (!(at' s_.badBus x.watch.toNat))then(!(at' r_.1 x.watch.toNat))else false)then(!(at' s_.closed x.close.toNat))else false),true)]=true→(0:Int)≤x.close∧x.close<(s_.badLink.length:Int))∧(gB [((bif (bif (bif (!(at' s_.badBus x.watch.toNat))then(!(at' r_.1 x.watch.toNat))else false)then(!(at' s_.closed x.close.toNat))else false)then(!(at' s_.badLink x.close.toNat))else false),true)]=true→(0:Int)≤x.close∧x.close<(s_.locked.length:Int))) (
 bif (decide (0≤x.open_))then
 aU ((0:Int)≤x.open_∧x.open_<((r_1.closed.set x.close.toNat true).length:Int)) (
 aU ((gB [((bif (bif (bif (bif (!(at' s_.badBus x.watch.toNat))then(!(at' r_.1 x.watch.toNat))else false)then(!(at' s_.closed x.close.toNat))else false)then(!(at' s_.badLink x.close.toNat))else false)then(!(at' s_.locked x.close.toNat))else false),true)]=true→(0:Int)≤x.open_∧x.open_<(s_.badLink.length:Int))∧(gB [((bif (bif (bif (bif (bif (!(at' s_.badBus x.watch.toNat))then(!(at' r_.1 x.watch.toNat))else false)then(!(at' s_.closed x.close.toNat))else false)then(!(at' s_.badLink x.close.toNat))else false)then(!(at' s_.locked x.close.toNat))else false)then(!(at' s_.badLink x.open_.toNat))else false),true)]=true→(0:Int)≤x.open_∧x.open_<(s_.locked.length:Int))) (
 (iL p (⟨((r_1.closed.set x.close.toNat true).set x.open_.toNat false),r_1.locked,r_1.badLink,r_1.on_,r_1.badSource,r_1.earthed,r_1.badBus⟩:State)).bind fun r_2=>
 aU (gB [((bif (bif (bif (bif (bif (bif (!(at' s_.badBus x.watch.toNat))then(!(at' r_.1 x.watch.toNat))else false)then(!(at' s_.closed x.close.toNat))else false)then(!(at' s_.badLink x.close.toNat))else false)then(!(at' s_.locked x.close.toNat))else false)then(!(at' s_.badLink x.open_.toNat))else false)then(!(at' s_.locked x.open_.toNat))else false),true)]=true→(0:Int)≤x.watch∧x.watch<(r_2.1.length:Int)) (
 Option.bind (aD (ER p s_ r_ r_2) FUEL ((bif (bif (bif (bif (bif (bif (bif (!(at' s_.badBus x.watch.toNat))then(!(at' r_.1 x.watch.toNat))else false)then(!(at' s_.closed x.close.toNat))else false)then(!(at' s_.badLink x.close.toNat))else false)then(!(at' s_.locked x.close.toNat))else false)then(!(at' s_.badLink x.open_.toNat))else false)then(!(at' s_.locked x.open_.toNat))else false)then(at' r_2.1 x.watch.toNat)else false),0)) fun o=>match o with
 | .ret v=>some v
 | .brk can1=>
 (fD p s_).bind fun r_3=>
 (fD p (⟨((r_1.closed.set x.close.toNat true).set x.open_.toNat false),r_1.locked,r_1.badLink,r_1.on_,r_1.badSource,r_1.earthed,r_1.badBus⟩:State)).bind fun r_4=>
 Option.bind (aD (Gl r_3 r_4) FUEL (can1,0)) fun o=>match o with
 | .ret v=>some v
 | .brk can3=>
 some ((⟨((r_1.closed.set x.close.toNat true).set x.open_.toNat false),r_1.locked,r_1.badLink,r_1.on_,r_1.badSource,r_1.earthed,r_1.badBus⟩:State),can3))))
 else
 (iL p (⟨(r_1.closed.set x.close.toNat true),r_1.locked,r_1.badLink,r_1.on_,r_1.badSource,r_1.earthed,r_1.badBus⟩:State)).bind fun r_5=>
 aU (gB [((bif (bif (bif (bif (!(at' s_.badBus x.watch.toNat))then(!(at' r_.1 x.watch.toNat))else false)then(!(at' s_.closed x.close.toNat))else false)then(!(at' s_.badLink x.close.toNat))else false)then(!(at' s_.locked x.close.toNat))else false),true)]=true→(0:Int)≤x.watch∧x.watch<(r_5.1.length:Int)) (
 Option.bind (aD (Fv p s_ r_ r_5) FUEL ((bif (bif (bif (bif (bif (!(at' s_.badBus x.watch.toNat))then(!(at' r_.1 x.watch.toNat))else false)then(!(at' s_.closed x.close.toNat))else false)then(!(at' s_.badLink x.close.toNat))else false)then(!(at' s_.locked x.close.toNat))else false)then(at' r_5.1 x.watch.toNat)else false),0)) fun o=>match o with
 | .ret v=>some v
 | .brk can5=>
 (fD p s_).bind fun r_6=>
 (fD p (⟨(r_1.closed.set x.close.toNat true),r_1.locked,r_1.badLink,r_1.on_,r_1.badSource,r_1.earthed,r_1.badBus⟩:State)).bind fun r_7=>
 Option.bind (aD (E5 r_6 r_7) FUEL (can5,0)) fun o=>match o with
 | .ret v=>some v
 | .brk can7=>
 some ((⟨(r_1.closed.set x.close.toNat true),r_1.locked,r_1.badLink,r_1.on_,r_1.badSource,r_1.earthed,r_1.badBus⟩:State),can7))))
def AJ (order:(List Int)) (i:Int):(Bool × Int)→Option (aI (Bool × Int) (Ex Bool (aI Int (Ex ((List Bool) × (List Bool) × (List Bool) × (List Bool) × (List Bool) × (List Bool) × (List Bool) × (List Int)) (aI ((List Bool) × (List Bool) × (List Bool) × (List Bool) × (List Bool) × (List Bool) × (List Bool) × (List Int) × Int) (Ex ((List Bool) × (List Bool) × (List Bool) × (List Bool) × (List Bool) × (List Bool) × (List Bool) × (List Int)) (State × (List Int) × Int))))))):=
 fun zz=>match zz with
 |(done,kz)=>
 bif (decide (kz<(order.length:Int)))then
 aU (gB [(done,false)]=true→(0:Int)≤kz∧kz<(order.length:Int)) (
 some (.next ((bif done then true else(decide ((at' order kz.toNat)=i))),(IntKind.wrap .i64 (kz+1)))))
 else
 some (.done (.brk done))
def AX (p:aF) (l:(List Transfer)) (now0:(List Bool)) (now1:(List Bool)) (now2:(List Bool)) (now3:(List Bool)) (now4:(List Bool)) (now5:(List Bool)) (now6:(List Bool)) (order:(List Int)):Int→Option (aI Int (Ex ((List Bool) × (List Bool) × (List Bool) × (List Bool) × (List Bool) × (List Bool) × (List Bool) × (List Int)) (aI ((List Bool) × (List Bool) × (List Bool) × (List Bool) × (List Bool) × (List Bool) × (List Bool) × (List Int) × Int) (Ex ((List Bool) × (List Bool) × (List Bool) × (List Bool) × (List Bool) × (List Bool) × (List Bool) × (List Int)) (State × (List Int) × Int))))):=
 fun i=>
 bif (decide (i<(l.length:Int)))then
 Option.bind (aD (AJ order i) FUEL (false,0)) fun o=>match o with
 | .ret v=>some v
 | .brk done1=>
 (Di p (⟨now0,now1,now2,now3,now4,now5,now6⟩:State) (at' l i.toNat)).bind fun r_2=>
 aU ((0:Int)≤i∧i<(l.length:Int)) (
 bif (bif (!done1)then r_2.2 else false)then
 aU (((order.length+[i].length)*8≤140737488355328)∧(order.length+[i].length≤4611686018427387904)) (
 some (.done (.brk (r_2.1.closed,r_2.1.locked,r_2.1.badLink,r_2.1.on_,r_2.1.badSource,r_2.1.earthed,r_2.1.badBus,(order++[i])))))
 else
 some (.next (IntKind.wrap .i64 (i+1))))
 else
 some (.done (.brk (now0,now1,now2,now3,now4,now5,now6,order)))
def Aj (p:aF) (l:(List Transfer)):((List Bool) × (List Bool) × (List Bool) × (List Bool) × (List Bool) × (List Bool) × (List Bool) × (List Int) × Int)→Option (aI ((List Bool) × (List Bool) × (List Bool) × (List Bool) × (List Bool) × (List Bool) × (List Bool) × (List Int) × Int) (Ex ((List Bool) × (List Bool) × (List Bool) × (List Bool) × (List Bool) × (List Bool) × (List Bool) × (List Int)) (State × (List Int) × Int))):=
 fun zz=>match zz with
 |(now0,now1,now2,now3,now4,now5,now6,order,n)=>
 bif (decide (n<(l.length:Int)))then
 Option.bind (aD (AX p l now0 now1 now2 now3 now4 now5 now6 order) FUEL (0)) fun o=>match o with
 | .ret v=>some v
 | .brk (now02,now12,now22,now32,now42,now52,now62,order2)=>
 some (.next (now02,now12,now22,now32,now42,now52,now62,order2,(IntKind.wrap .i64 (n+1))))
 else
 some (.done (.brk (now0,now1,now2,now3,now4,now5,now6,order)))
def oD (p:aF) (s_:State) (l:(List Transfer)):Option (State × (List Int) × Int):=
 (gV p s_ l).bind fun r_=>
 bif (!decide (r_=0))then
 some ((⟨([]:List Bool),([]:List Bool),([]:List Bool),([]:List Bool),([]:List Bool),([]:List Bool),([]:List Bool)⟩:State),([]:List Int),r_)
 else
 (gK s_).bind fun r_1=>
 Option.bind (aD (Aj p l) FUEL (r_1.closed,r_1.locked,r_1.badLink,r_1.on_,r_1.badSource,r_1.earthed,r_1.badBus,([]:List Int),0)) fun o=>match o with
 | .ret v=>some v
 | .brk (now01,now11,now21,now31,now41,now51,now61,order1)=>
 some ((⟨now01,now11,now21,now31,now41,now51,now61⟩:State),order1,0)
def CJ (x:aC) (i:Int):Int→Option (aI Int (Ex Unit (aI Int (Ex Unit Bool)))):=
 fun kz=>
 bif (decide (kz<i))then
 aU (((0:Int)≤i∧i<(x.parts.length:Int))∧((0:Int)≤kz∧kz<(x.parts.length:Int))) (
 bif ((decide (((at' x.parts i.toNat).kind)=((at' x.parts kz.toNat).kind))) && ((decide (((at' x.parts i.toNat).index)=((at' x.parts kz.toNat).index))) && true))then
 some (.done (.ret (.done (.ret false))))
 else
 some (.next (IntKind.wrap .i64 (kz+1))))
 else
 some (.done (.brk ()))
def Ct (x:aC):Int→Option (aI Int (Ex Unit Bool)):=
 fun i=>
 bif (decide (i<(x.parts.length:Int)))then
 Option.bind (aD (CJ x i) FUEL (0)) fun o=>match o with
 | .ret v=>some v
 | .brk _=>
 some (.next (IntKind.wrap .i64 (i+1)))
 else
 some (.done (.brk ()))
def BI (x:aC) (before:Int):Int→Option (aI Int (Ex Unit Bool)):=
 fun i1=>
 bif (decide (i1<(x.after.length:Int)))then
 aU (((0:Int)≤i1∧i1<(x.after.length:Int))∧(gB [((decide ((at' x.after i1.toNat)<0)),false)]=true→(0:Int)≤i1∧i1<(x.after.length:Int))) (
 bif (bif (decide ((at' x.after i1.toNat)<0))then true else(decide (before≤(at' x.after i1.toNat))))then
 some (.done (.ret false))
 else
 some (.next (IntKind.wrap .i64 (i1+1))))
 else
 some (.done (.brk ()))
def xO (x:aC) (before:Int):Option Bool:=
 bif (bif (bif (bif (bif (bif (bif (bif (bif (bif (bif (bif (decide ((x.parts.length:Int)<1))then true else(decide (8<(x.parts.length:Int))))then true else(decide (x.hours<1)))then true else(decide (48<x.hours)))then true else(decide (x.from_<0)))then true else(decide (48<x.from_)))then true else(decide (x.to_<0)))then true else(decide (48<x.to_)))then true else(decide (x.to_<(IntKind.wrap .i64 (x.from_+x.hours)))))then true else(decide (x.people<1)))then true else(decide (20<x.people)))then true else(decide (8<(x.after.length:Int))))then
 some false
 else
 Option.bind (aD (Ct x) FUEL (0)) fun o=>match o with
 | .ret v=>some v
 | .brk _=>
 Option.bind (aD (BI x before) FUEL (0)) fun o=>match o with
 | .ret v=>some v
 | .brk _=>
 some true
def nC (l:(List Bool)) (i:Int) (is:Bool):Option (List Bool):=
 aU (((([]:List Bool).length+l.length)*1≤140737488355328)∧(([]:List Bool).length+l.length≤4611686018427387904)) (
 aU ((0:Int)≤i∧i<((([]:List Bool)++l).length:Int)) (
 some ((([]:List Bool)++l).set i.toNat is)))
def oN (p:aF) (s_:State) (x:Part) (is:Bool):Option (State × Int):=
 (fe p s_).bind fun r_=>
 bif (!decide (r_=0))then
 some ((⟨([]:List Bool),([]:List Bool),([]:List Bool),([]:List Bool),([]:List Bool),([]:List Bool),([]:List Bool)⟩:State),r_)
 else
 bif (decide (x.index<0))then
 some ((⟨([]:List Bool),([]:List Bool),([]:List Bool),([]:List Bool),([]:List Bool),([]:List Bool),([]:List Bool)⟩:State),14)
 else
 bif (bif (decide (x.kind=1))then(decide (x.index<p.buses))else false)then
 (nC s_.badBus x.index is).bind fun r_1=>
 some ((⟨s_.closed,s_.locked,s_.badLink,s_.on_,s_.badSource,s_.earthed,r_1⟩:State),0)
 else
 bif (bif (decide (x.kind=2))then(decide (x.index<(p.sources.length:Int)))else false)then
 (nC s_.badSource x.index is).bind fun r_2=>
 some ((⟨s_.closed,s_.locked,s_.badLink,s_.on_,r_2,s_.earthed,s_.badBus⟩:State),0)
 else
 bif (bif (decide (x.kind=3))then(decide (x.index<(p.links.length:Int)))else false)then
 (nC s_.badLink x.index is).bind fun r_3=>
 some ((⟨s_.closed,s_.locked,r_3,s_.on_,s_.badSource,s_.earthed,s_.badBus⟩:State),0)
 else
 some ((⟨([]:List Bool),([]:List Bool),([]:List Bool),([]:List Bool),([]:List Bool),([]:List Bool),([]:List Bool)⟩:State),14)
def BH (y:bE) (i:Int):Int→Option (aI Int (Ex Unit (aI Int (Ex Unit Int)))):=
 fun kz=>
 aU ((0:Int)≤i∧i<(y.jobs.length:Int)) (
 bif (decide (kz<(((at' y.jobs i.toNat).parts).length:Int)))then
 (oN y.plant y.state (at' ((at' y.jobs i.toNat).parts) kz.toNat) true).bind fun r_2=>
 aU (((0:Int)≤i∧i<(y.jobs.length:Int))∧((0:Int)≤kz∧kz<(((at' y.jobs i.toNat).parts).length:Int))) (
 bif (!decide (r_2.2=0))then
 some (.done (.ret (.done (.ret r_2.2))))
 else
 some (.next (IntKind.wrap .i64 (kz+1))))
 else
 some (.done (.brk ())))
def CG (y:bE):Int→Option (aI Int (Ex Unit Int)):=
 fun i=>
 bif (decide (i<(y.jobs.length:Int)))then
 (xO (at' y.jobs i.toNat) i).bind fun r_1=>
 aU ((0:Int)≤i∧i<(y.jobs.length:Int)) (
 bif (!r_1)then
 some (.done (.ret 120))
 else
 Option.bind (aD (BH y i) FUEL (0)) fun o=>match o with
 | .ret v=>some v
 | .brk _=>
 some (.next (IntKind.wrap .i64 (i+1))))
 else
 some (.done (.brk ()))
def iX (y:bE):Option Int:=
 (oD y.plant y.state y.transfers).bind fun r_=>
 bif (!decide (r_.2.2=0))then
 some r_.2.2
 else
 bif (decide (5<(y.jobs.length:Int)))then
 some 2
 else
 Option.bind (aD (CG y) FUEL (0)) fun o=>match o with
 | .ret v=>some v
 | .brk _=>
 bif (bif (decide (y.people<0))then true else(decide (1000<y.people)))then
 some 1
 else
 some 0
def fC (s_:Int):Option Int:=
 some s_
def dh:Option jh:=
 some (⟨1,2,4,8,16⟩:jh)
def eZ (s_:Int) (i:Int):Option Bool:=
 (dh).bind fun r_=>
 aU ((0:Int)≤i∧i<((5:Nat):Int)) (
 some (!decide ((IntKind.wrap .u8 (((BitVec.ofInt (IntKind.bits .u8) s_ &&& BitVec.ofInt (IntKind.bits .u8) (at' [r_.e0,r_.e1,r_.e2,r_.e3,r_.e4] i.toNat)).toNat:Int)))=0)))
def kD (x29:Int) (o_:(List (Int × Bool))) (set:Int) (bool:Bool):Option Bool:=
 (bif gB [(bool,true)]then dh else some default).bind fun r_=>
 aU (gB [(bool,true)]=true→(0:Int)≤x29∧x29<((5:Nat):Int)) (
 some (bif bool then((bU dP (IntKind.wrap .u8 (((BitVec.ofInt (IntKind.bits .u8) set &&& ~~~ BitVec.ofInt (IntKind.bits .u8) (at' [r_.e0,r_.e1,r_.e2,r_.e3,r_.e4] x29.toNat)).toNat:Int))) o_).getD false)else false))
def vw (x1:Int) (o_:(List (Int × Bool))) (set:Int):(Bool × Int)→Option (aI (Bool × Int) (Ex Bool Bool)):=
 fun zz=>match zz with
 |(o0,t4)=>
 bif (decide (t4<5))then
 (eZ x1 t4).bind fun r_=>
 bif r_ then
 (kD t4 o_ set o0).bind fun r_1=>
 some (.next (r_1,(IntKind.wrap .i64 (t4+1))))
 else
 some (.next (o0,(IntKind.wrap .i64 (t4+1))))
 else
 some (.done (.brk o0))
def pQ (x1:Int) (o_:(List (Int × Bool))) (set:Int) (bool:Bool):Option Bool:=
 Option.bind (aD (vw x1 o_ set) FUEL (bool,0)) fun o=>match o with
 | .ret v=>some v
 | .brk o01=>
 some o01
def jB (x9:Int) (yard:aj) (int:Int):Option Int:=
 aU ((0:Int)≤x9∧x9<(yard.jobs.length:Int)) (
 some (IntKind.wrap .i64 (int+((at' yard.jobs x9.toNat).people))))
def qJ (x1:Int) (yard:aj):(Int × Int)→Option (aI (Int × Int) (Ex Int Int)):=
 fun zz=>match zz with
 |(o0,t4)=>
 bif (decide (t4<5))then
 (eZ x1 t4).bind fun r_=>
 bif r_ then
 (jB t4 yard o0).bind fun r_1=>
 some (.next (r_1,(IntKind.wrap .i64 (t4+1))))
 else
 some (.next (o0,(IntKind.wrap .i64 (t4+1))))
 else
 some (.done (.brk o0))
def lH (x1:Int) (yard:aj) (int:Int):Option Int:=
 Option.bind (aD (qJ x1 yard) FUEL (int,0)) fun o=>match o with
 | .ret v=>some v
 | .brk o01=>
 some o01
def oF (y:aj) (s_:Int):Option Bool:=
 (fC s_).bind fun r_=>
 (lH r_ y 0).bind fun r_1=>
 some (decide (r_1≤y.people))
def ow (holds:aj) (set:Int):Option Bool:=
 (oF holds set).bind fun r_=>
 some (!r_)
def lJ (x9:Int) (yard:aj) (part:(List Part)):Option (List Part):=
 aU (((0:Int)≤x9∧x9<(yard.jobs.length:Int))∧((part.length+((at' yard.jobs x9.toNat).parts).length)*16≤140737488355328)∧(part.length+((at' yard.jobs x9.toNat).parts).length≤4611686018427387904)) (
 some (part++((at' yard.jobs x9.toNat).parts)))
def rJ (x1:Int) (yard:aj):((List Part) × Int)→Option (aI ((List Part) × Int) (Ex (List Part) (List Part))):=
 fun zz=>match zz with
 |(o0,t4)=>
 bif (decide (t4<5))then
 (eZ x1 t4).bind fun r_=>
 bif r_ then
 (lJ t4 yard o0).bind fun r_1=>
 some (.next (r_1,(IntKind.wrap .i64 (t4+1))))
 else
 some (.next (o0,(IntKind.wrap .i64 (t4+1))))
 else
 some (.done (.brk o0))
def lX (x1:Int) (yard:aj) (part:(List Part)):Option (List Part):=
 Option.bind (aD (rJ x1 yard) FUEL (part,0)) fun o=>match o with
 | .ret v=>some v
 | .brk o01=>
 some o01
def gL (y:aj) (s_:Int):Option (List Part):=
 (fC s_).bind fun r_=>
 (lX r_ y ([]:List Part)).bind fun r_1=>
 some r_1
def wJ (r_:(List Part)):Int→Option (aI Int (Ex Unit Bool)):=
 fun t13=>
 bif (decide (t13<(r_.length:Int)))then
 aU ((0:Int)≤t13∧t13<(r_.length:Int)) (
 (iD (kU r_ 0 t13.toNat) (at' r_ t13.toNat)).bind fun r_1=>
 aU ((0:Int)≤t13∧t13≤(r_.length:Int)) (
 bif r_1 then
 some (.done (.ret false))
 else
 some (.next (IntKind.wrap .i64 (t13+1)))))
 else
 some (.done (.brk ()))
def pE (y:aj) (s_:Int):Option Bool:=
 (gL y s_).bind fun r_=>
 Option.bind (aD (wJ r_) FUEL (0)) fun o=>match o with
 | .ret v=>some v
 | .brk _=>
 some true
def ko (holds:aj) (set:Int):Option Bool:=
 (pE holds set).bind fun r_=>
 some (!r_)
def Co (p:aF) (parts:(List Part)):((List Bool) × (List Bool) × (List Bool) × (List Bool) × (List Bool) × (List Bool) × (List Bool) × Int)→Option (aI ((List Bool) × (List Bool) × (List Bool) × (List Bool) × (List Bool) × (List Bool) × (List Bool) × Int) (Ex ((List Bool) × (List Bool) × (List Bool) × (List Bool) × (List Bool) × (List Bool) × (List Bool)) (State × Int))):=
 fun zz=>match zz with
 |(s0,s1,s2,s3,s4,s5,s6,t26)=>
 bif (decide (t26<(parts.length:Int)))then
 aU ((0:Int)≤t26∧t26<(parts.length:Int)) (
 (qp p (⟨s0,s1,s2,s3,s4,s5,s6⟩:State) (at' parts t26.toNat)).bind fun r_1=>
 bif (!decide (r_1.2=0))then
 some (.done (.ret ((⟨([]:List Bool),([]:List Bool),([]:List Bool),([]:List Bool),([]:List Bool),([]:List Bool),([]:List Bool)⟩:State),r_1.2)))
 else
 some (.next (r_1.1.closed,r_1.1.locked,r_1.1.badLink,r_1.1.on_,r_1.1.badSource,r_1.1.earthed,r_1.1.badBus,(IntKind.wrap .i64 (t26+1)))))
 else
 some (.done (.brk (s0,s1,s2,s3,s4,s5,s6)))
def xL (p:aF) (s_:State) (l:(List Transfer)) (parts:(List Part)):Option (State × Int):=
 (gQ p s_ l).bind fun r_=>
 bif (!decide (r_=0))then
 some ((⟨([]:List Bool),([]:List Bool),([]:List Bool),([]:List Bool),([]:List Bool),([]:List Bool),([]:List Bool)⟩:State),r_)
 else
 Option.bind (aD (Co p parts) FUEL (s_.closed,s_.locked,s_.badLink,s_.on_,s_.badSource,s_.earthed,s_.badBus,0)) fun o=>match o with
 | .ret v=>some v
 | .brk (s01,s11,s21,s31,s41,s51,s61)=>
 (oU p (⟨s01,s11,s21,s31,s41,s51,s61⟩:State) l).bind fun r_2=>
 some (r_2.1,r_2.2.2)
def Fp (p:aF) (r_:((List Bool) × Int)):((List aM) × Int)→Option (aI ((List aM) × Int) (Ex (List aM) ((List aM) × Int))):=
 fun zz=>match zz with
 |(out,t26)=>
 bif (decide (t26<(p.racks.length:Int)))then
 aU ((0:Int)≤t26∧t26<(p.racks.length:Int)) (
 aU (gB [((decide (0≤(((at' p.racks t26.toNat).feeds).e0))),true)]=true→(0:Int)≤((at' p.racks t26.toNat).feeds).e0∧((at' p.racks t26.toNat).feeds).e0<(r_.1.length:Int)) (
 aU (gB [((decide (0≤(((at' p.racks t26.toNat).feeds).e1))),true)]=true→(0:Int)≤((at' p.racks t26.toNat).feeds).e1∧((at' p.racks t26.toNat).feeds).e1<(r_.1.length:Int)) (
 aU (((out.length+[(⟨(bif (decide (0≤(((at' p.racks t26.toNat).feeds).e0)))then(at' r_.1 ((((at' p.racks t26.toNat).feeds).e0).toNat))else false),(bif (decide (0≤(((at' p.racks t26.toNat).feeds).e1)))then(at' r_.1 ((((at' p.racks t26.toNat).feeds).e1).toNat))else false)⟩:aM)].length)*2≤140737488355328)∧(out.length+[(⟨(bif (decide (0≤(((at' p.racks t26.toNat).feeds).e0)))then(at' r_.1 ((((at' p.racks t26.toNat).feeds).e0).toNat))else false),(bif (decide (0≤(((at' p.racks t26.toNat).feeds).e1)))then(at' r_.1 ((((at' p.racks t26.toNat).feeds).e1).toNat))else false)⟩:aM)].length≤4611686018427387904)) (
 some (.next ((out++[(⟨(bif (decide (0≤(((at' p.racks t26.toNat).feeds).e0)))then(at' r_.1 ((((at' p.racks t26.toNat).feeds).e0).toNat))else false),(bif (decide (0≤(((at' p.racks t26.toNat).feeds).e1)))then(at' r_.1 ((((at' p.racks t26.toNat).feeds).e1).toNat))else false)⟩:aM)]),(IntKind.wrap .i64 (t26+1))))))))
 else
 some (.done (.brk out))
def Dj (p:aF) (s_:State):Option ((List aM) × Int):=
 (iF p s_).bind fun r_=>
 bif (!decide (r_.2=0))then
 some (([]:List aM),r_.2)
 else
 Option.bind (aD (Fp p r_) FUEL (([]:List aM),0)) fun o=>match o with
 | .ret v=>some v
 | .brk out1=>
 some (out1,0)
def yE (y:aj) (least:Int) (r_1:((List aM) × Int)):Int→Option (aI Int (Ex Unit Bool)):=
 fun t35=>
 bif (decide (t35<(y.plant.racks.length:Int)))then
 aU ((0:Int)≤t35∧t35<(y.plant.racks.length:Int)) (
 aU ((gB [((decide (least≤((at' y.plant.racks t35.toNat).paths))),true)]=true→(0:Int)≤t35∧t35<(r_1.1.length:Int))∧(gB [((bif (decide (least≤((at' y.plant.racks t35.toNat).paths)))then(!((at' r_1.1 t35.toNat).e0))else false),true)]=true→(0:Int)≤t35∧t35<(r_1.1.length:Int))) (
 bif (bif (bif (decide (least≤((at' y.plant.racks t35.toNat).paths)))then(!((at' r_1.1 t35.toNat).e0))else false)then(!((at' r_1.1 t35.toNat).e1))else false)then
 some (.done (.ret false))
 else
 some (.next (IntKind.wrap .i64 (t35+1)))))
 else
 some (.done (.brk ()))
def lY (y:aj) (parts:(List Part)) (least:Int):Option Bool:=
 (xL y.plant y.state y.transfers parts).bind fun r_=>
 (Dj y.plant r_.1).bind fun r_1=>
 Option.bind (aD (yE y least r_1) FUEL (0)) fun o=>match o with
 | .ret v=>some v
 | .brk _=>
 some true
def sV (y:aj) (s_:Int):Option Bool:=
 (gL y s_).bind fun r_=>
 (lY y r_ 1).bind fun r_1=>
 some r_1
def ku (holds:aj) (set:Int):Option Bool:=
 (sV holds set).bind fun r_=>
 some (!r_)
def BJ (p:aF) (t24:Int):((List Part) × Int)→Option (aI ((List Part) × Int) (Ex (List Part) (aI ((List Part) × Int) (Ex (List Part) ((List Part) × Int))))):=
 fun zz=>match zz with
 |(out2,t30)=>
 bif (decide (t30<(at' [p.buses,(p.sources.length:Int),(p.links.length:Int)] t24.toNat)))then
 aU (((out2.length+[(⟨(IntKind.wrap .i64 (t24+1)),t30⟩:Part)].length)*16≤140737488355328)∧(out2.length+[(⟨(IntKind.wrap .i64 (t24+1)),t30⟩:Part)].length≤4611686018427387904)) (
 some (.next ((out2++[(⟨(IntKind.wrap .i64 (t24+1)),t30⟩:Part)]),(IntKind.wrap .i64 (t30+1)))))
 else
 some (.done (.brk out2))
def Bp (p:aF):((List Part) × Int)→Option (aI ((List Part) × Int) (Ex (List Part) ((List Part) × Int))):=
 fun zz=>match zz with
 |(out,t24)=>
 bif (decide (t24<([p.buses,(p.sources.length:Int),(p.links.length:Int)].length:Int)))then
 aU ((0:Int)≤t24∧t24<([p.buses,(p.sources.length:Int),(p.links.length:Int)].length:Int)) (
 Option.bind (aD (BJ p t24) FUEL (out,0)) fun o=>match o with
 | .ret v=>some v
 | .brk out3=>
 some (.next (out3,(IntKind.wrap .i64 (t24+1)))))
 else
 some (.done (.brk out))
def xW (p:aF):Option ((List Part) × Int):=
 (qh p).bind fun r_=>
 bif (!decide (r_=0))then
 some (([]:List Part),r_)
 else
 Option.bind (aD (Bp p) FUEL (([]:List Part),0)) fun o=>match o with
 | .ret v=>some v
 | .brk out1=>
 some (out1,0)
def qo (y:aj) (s_:Int) (r_:((List Part) × Int)):Int→Option (aI Int (Ex Unit Bool)):=
 fun t21=>
 bif (decide (t21<(r_.1.length:Int)))then
 aU ((0:Int)≤t21∧t21<(r_.1.length:Int)) (
 aU (((0:Int)≤(at' r_.1 t21.toNat).kind∧(at' r_.1 t21.toNat).kind<([([]:List Bool),y.state.badBus,y.state.badSource,y.state.badLink].length:Int))∧((0:Int)≤(at' r_.1 t21.toNat).index∧(at' r_.1 t21.toNat).index<((at' [([]:List Bool),y.state.badBus,y.state.badSource,y.state.badLink] (((at' r_.1 t21.toNat).kind).toNat)).length:Int))) (
 bif (!(at' (at' [([]:List Bool),y.state.badBus,y.state.badSource,y.state.badLink] (((at' r_.1 t21.toNat).kind).toNat)) (((at' r_.1 t21.toNat).index).toNat)))then
 (gL y s_).bind fun r_1=>
 (lY y (r_1++[(at' r_.1 t21.toNat)]) 2).bind fun r_2=>
 aU ((gB [(true,true)]=true→(r_1.length+[(at' r_.1 t21.toNat)].length)*16≤140737488355328)∧(gB [(true,true)]=true→r_1.length+[(at' r_.1 t21.toNat)].length≤4611686018427387904)) (
 bif (!r_2)then
 some (.done (.ret false))
 else
 some (.next (IntKind.wrap .i64 (t21+1))))
 else
 some (.next (IntKind.wrap .i64 (t21+1)))))
 else
 some (.done (.brk ()))
def kr (y:aj) (s_:Int):Option Bool:=
 bif (!y.redundant)then
 some true
 else
 (xW y.plant).bind fun r_=>
 Option.bind (aD (qo y s_ r_) FUEL (0)) fun o=>match o with
 | .ret v=>some v
 | .brk _=>
 some true
def kG (holds:aj) (set:Int):Option Bool:=
 (kr holds set).bind fun r_=>
 some (!r_)
def j3 (o_:aj) (o_1:aj) (o_2:aj) (o_3:aj) (set:Int):Option Int:=
 (ow o_ set).bind fun r_=>
 aU ((0:Int)≤0∧0<(4:Int)) (
 bif r_ then
 some 0
 else
 (ko o_1 set).bind fun r_1=>
 aU ((0:Int)≤1∧1<(4:Int)) (
 bif r_1 then
 some 1
 else
 (ku o_2 set).bind fun r_2=>
 aU ((0:Int)≤2∧2<(4:Int)) (
 bif r_2 then
 some 2
 else
 (kG o_3 set).bind fun r_3=>
 aU ((0:Int)≤3∧3<(4:Int)) (
 bif r_3 then
 some 3
 else
 some (-1)))))
def iW (o_:aj) (o_1:aj) (o_2:aj) (o_3:aj) (set:Int):Option Bool:=
 (j3 o_ o_1 o_2 o_3 set).bind fun r_=>
 some (decide (0≤r_))
def xD (y:aj):((List (Int × Bool)) × Int)→Option (aI ((List (Int × Bool)) × Int) (Ex (List (Int × Bool)) (List (Int × Bool)))):=
 fun zz=>match zz with
 |(out0,s0)=>
 aU ((0:Int)≤(y.jobs.length:Int)) (
 bif (decide (s0<(IntKind.wrap .u8 ((1:Int)*2 ^ min (y.jobs.length:Int).toNat (IntKind.bits .u8)))))then
 (fC s0).bind fun r_=>
 (pQ r_ out0 s0 true).bind fun r_1=>
 (bif gB [(r_1,true)]then iW y y y y s0 else some default).bind fun r_2=>
 some (.next ((fO dP s0 (bif r_1 then(!r_2)else false) out0),(IntKind.wrap .u8 (s0+1))))
 else
 some (.done (.brk out0)))
def eG (y:aj):Option (List (Int × Bool)):=
 Option.bind (aD (xD y) FUEL ((fO dP 0 true ([]:(List (Int × Bool)))),1)) fun o=>match o with
 | .ret v=>some v
 | .brk out01=>
 some out01
def tJ (x31:Int) (o_:(List (Int × Bool))) (set:Int) (bool:Bool):Option Bool:=
 (bif gB [(bool,true)]then dh else some default).bind fun r_=>
 aU (gB [(bool,true)]=true→(0:Int)≤x31∧x31<((5:Nat):Int)) (
 some (bif bool then((bU dP (IntKind.wrap .u8 (((BitVec.ofInt (IntKind.bits .u8) set &&& ~~~ BitVec.ofInt (IntKind.bits .u8) (at' [r_.e0,r_.e1,r_.e2,r_.e3,r_.e4] x31.toNat)).toNat:Int))) o_).getD false)else false))
def rE (x1:Int) (o_:(List (Int × Bool))) (set:Int):(Bool × Int)→Option (aI (Bool × Int) (Ex Bool Bool)):=
 fun zz=>match zz with
 |(o0,t4)=>
 bif (decide (t4<5))then
 (eZ x1 t4).bind fun r_=>
 bif r_ then
 (tJ t4 o_ set o0).bind fun r_1=>
 some (.next (r_1,(IntKind.wrap .i64 (t4+1))))
 else
 some (.next (o0,(IntKind.wrap .i64 (t4+1))))
 else
 some (.done (.brk o0))
def lQ (x1:Int) (o_:(List (Int × Bool))) (set:Int) (bool:Bool):Option Bool:=
 Option.bind (aD (rE x1 o_ set) FUEL (bool,0)) fun o=>match o with
 | .ret v=>some v
 | .brk o01=>
 some o01
def jI (x7:Int) (o_:(List Int)):Option (List Int):=
 aU (((o_.length+[x7].length)*8≤140737488355328)∧(o_.length+[x7].length≤4611686018427387904)) (
 some (o_++[x7]))
def qU (x1:Int):((List Int) × Int)→Option (aI ((List Int) × Int) (Ex (List Int) (List Int))):=
 fun zz=>match zz with
 |(o0,t4)=>
 bif (decide (t4<5))then
 (eZ x1 t4).bind fun r_=>
 bif r_ then
 (jI t4 o0).bind fun r_1=>
 some (.next (r_1,(IntKind.wrap .i64 (t4+1))))
 else
 some (.next (o0,(IntKind.wrap .i64 (t4+1))))
 else
 some (.done (.brk o0))
def lW (x1:Int) (o_:(List Int)):Option (List Int):=
 Option.bind (aD (qU x1) FUEL (o_,0)) fun o=>match o with
 | .ret v=>some v
 | .brk o01=>
 some o01
def og (seq:Int):Option (List Int):=
 (lW seq ([]:List Int)).bind fun r_=>
 some r_
def rq (seq:Int):Option (List Int):=
 (og seq).bind fun r_=>
 some r_
def pI (x:Int):Option Bool:=
 some (!decide (x=x))
def lg (x:Int) (y:Int):Option Int:=
 (pI x).bind fun r_=>
 (pI y).bind fun r_1=>
 bif r_ then
 bif r_1 then
 some 0
 else
 some (-1)
 else
 bif r_1 then
 some 1
 else
 bif (decide (x<y))then
 some (-1)
 else
 bif (decide (y<x))then
 some 1
 else
 some 0
def dZ (s1:(List Int)) (s2:(List Int)):Int→Option (aI Int (Ex Unit Int)):=
 fun t11=>
 bif (decide (t11<(s1.length:Int)))then
 aU ((0:Int)≤t11∧t11<(s1.length:Int)) (
 bif (decide ((s2.length:Int)≤t11))then
 some (.done (.ret 1))
 else
 aU ((0:Int)≤t11∧t11<(s2.length:Int)) (
 (lg (at' s1 t11.toNat) (at' s2 t11.toNat)).bind fun r_=>
 bif (!decide (r_=0))then
 some (.done (.ret r_))
 else
 some (.next (IntKind.wrap .i64 (t11+1)))))
 else
 some (.done (.brk ()))
def kQ (s1:(List Int)) (s2:(List Int)):Option Int:=
 Option.bind (aD (dZ s1 s2) FUEL (0)) fun o=>match o with
 | .ret v=>some v
 | .brk _=>
 bif (decide ((s1.length:Int)<(s2.length:Int)))then
 some (-1)
 else
 some 0
def sN (a:(List Int)) (b:(List Int)):Option Int:=
 bif (!decide ((a.length:Int)=(b.length:Int)))then
 some (IntKind.wrap .i64 ((a.length:Int) - (b.length:Int)))
 else
 (kQ a b).bind fun r_=>
 some r_
def dI (s:(List (List Int))):Option (List (List Int)):=bif decide (s.length<4611686018427387904) && (decide s.Nodup && s.all fun x=>decide (x.length≤1000000))then some (s.mergeSort fun x y=> !decide (cmpL y x<0))else none
def Gv (y:aj) (r_1:(List (Int × Bool))):((List (List Int)) × Int)→Option (aI ((List (List Int)) × Int) (Ex (List (List Int)) ((List (List Int)) × Int))):=
 fun zz=>match zz with
 |(out,s0)=>
 aU ((0:Int)≤(y.jobs.length:Int)) (
 bif (decide (s0<(IntKind.wrap .u8 ((1:Int)*2 ^ min (y.jobs.length:Int).toNat (IntKind.bits .u8)))))then
 (fC s0).bind fun r_2=>
 (lQ r_2 r_1 s0 (!((bU dP s0 r_1).getD false))).bind fun r_3=>
 bif r_3 then
 (fC s0).bind fun r_4=>
 (rq r_4).bind fun r_5=>
 aU (((out.length+[r_5].length)*24≤140737488355328)∧(out.length+[r_5].length≤4611686018427387904)) (
 some (.next ((out++[r_5]),(IntKind.wrap .u8 (s0+1)))))
 else
 some (.next (out,(IntKind.wrap .u8 (s0+1))))
 else
 some (.done (.brk out)))
def nk (w0:List (List Int)→Option (List (List Int))) (y:aj):Option ((List (List Int)) × Int):=
 (iJ y).bind fun r_=>
 bif (!decide (r_=0))then
 some (([]:List (List Int)),r_)
 else
 (eG y).bind fun r_1=>
 Option.bind (aD (Gv y r_1) FUEL (([]:List (List Int)),1)) fun o=>match o with
 | .ret v=>some v
 | .brk out1=>
 (w0 out1).bind fun r_6=>
 aU (out1.length=r_6.length) (
 some (r_6,0))
def fV (y:aj):Option ((List (List Int)) × Int):=nk dI y
def zb (n:Int):((List Int) × Int)→Option (aI ((List Int) × Int) (Ex (List Int) (List Int))):=
 fun zz=>match zz with
 |(out,i)=>
 bif (decide (i<5))then
 aU (((0:Int)≤i)∧(2≠(0:Int))) (
 bif (decide ((Int.tmod (Int.fdiv n (2 ^ min i.toNat (IntKind.bits .i64))) 2)=1))then
 aU (((out.length+[i].length)*8≤140737488355328)∧(out.length+[i].length≤4611686018427387904)) (
 some (.next ((out++[i]),(IntKind.wrap .i64 (i+1)))))
 else
 some (.next (out,(IntKind.wrap .i64 (i+1)))))
 else
 some (.done (.brk out))
def mg (n:Int):Option (List Int):=
 Option.bind (aD (zb n) FUEL (([]:List Int),0)) fun o=>match o with
 | .ret v=>some v
 | .brk out1=>
 some out1
def CU (y:bE) (jobs:(List Int)):((List Part) × Int)→Option (aI ((List Part) × Int) (Ex (List Part) (List Part))):=
 fun zz=>match zz with
 |(out,i)=>
 bif (decide (i<(jobs.length:Int)))then
 aU (((0:Int)≤i∧i<(jobs.length:Int))∧((0:Int)≤(at' jobs i.toNat)∧(at' jobs i.toNat)<(y.jobs.length:Int))∧((out.length+((at' y.jobs ((at' jobs i.toNat).toNat)).parts).length)*16≤140737488355328)∧(out.length+((at' y.jobs ((at' jobs i.toNat).toNat)).parts).length≤4611686018427387904)) (
 some (.next ((out++((at' y.jobs ((at' jobs i.toNat).toNat)).parts)),(IntKind.wrap .i64 (i+1)))))
 else
 some (.done (.brk out))
def yA (y:bE) (jobs:(List Int)):Option (List Part):=
 Option.bind (aD (CU y jobs) FUEL (([]:List Part),0)) fun o=>match o with
 | .ret v=>some v
 | .brk out1=>
 some out1
def Bu (p:aF) (parts:(List Part)):((List Bool) × (List Bool) × (List Bool) × (List Bool) × (List Bool) × (List Bool) × (List Bool) × Int)→Option (aI ((List Bool) × (List Bool) × (List Bool) × (List Bool) × (List Bool) × (List Bool) × (List Bool) × Int) (Ex ((List Bool) × (List Bool) × (List Bool) × (List Bool) × (List Bool) × (List Bool) × (List Bool)) (State × Int))):=
 fun zz=>match zz with
 |(now0,now1,now2,now3,now4,now5,now6,i)=>
 bif (decide (i<(parts.length:Int)))then
 (oN p (⟨now0,now1,now2,now3,now4,now5,now6⟩:State) (at' parts i.toNat) true).bind fun r_1=>
 aU ((0:Int)≤i∧i<(parts.length:Int)) (
 bif (!decide (r_1.2=0))then
 some (.done (.ret ((⟨([]:List Bool),([]:List Bool),([]:List Bool),([]:List Bool),([]:List Bool),([]:List Bool),([]:List Bool)⟩:State),r_1.2)))
 else
 some (.next (r_1.1.closed,r_1.1.locked,r_1.1.badLink,r_1.1.on_,r_1.1.badSource,r_1.1.earthed,r_1.1.badBus,(IntKind.wrap .i64 (i+1)))))
 else
 some (.done (.brk (now0,now1,now2,now3,now4,now5,now6)))
def xQ (p:aF) (s_:State) (l:(List Transfer)) (parts:(List Part)):Option (State × Int):=
 (gV p s_ l).bind fun r_=>
 bif (!decide (r_=0))then
 some ((⟨([]:List Bool),([]:List Bool),([]:List Bool),([]:List Bool),([]:List Bool),([]:List Bool),([]:List Bool)⟩:State),r_)
 else
 Option.bind (aD (Bu p parts) FUEL (s_.closed,s_.locked,s_.badLink,s_.on_,s_.badSource,s_.earthed,s_.badBus,0)) fun o=>match o with
 | .ret v=>some v
 | .brk (now01,now11,now21,now31,now41,now51,now61)=>
 (oD p (⟨now01,now11,now21,now31,now41,now51,now61⟩:State) l).bind fun r_2=>
 some (r_2.1,0)
def FH (p:aF) (r_:((List Bool) × Int)):((List aM) × Int)→Option (aI ((List aM) × Int) (Ex (List aM) ((List aM) × Int))):=
 fun zz=>match zz with
 |(out,r_1)=>
 bif (decide (r_1<(p.racks.length:Int)))then
 aU ((0:Int)≤r_1∧r_1<(p.racks.length:Int)) (
 aU (((0:Int)≤((at' p.racks r_1.toNat).feeds).e0∧((at' p.racks r_1.toNat).feeds).e0<(r_.1.length:Int))∧(gB [((decide (0≤(((at' p.racks r_1.toNat).feeds).e1))),true)]=true→(0:Int)≤(if((at' p.racks r_1.toNat).feeds).e1<0 then 0 else((at' p.racks r_1.toNat).feeds).e1)∧(if((at' p.racks r_1.toNat).feeds).e1<0 then 0 else((at' p.racks r_1.toNat).feeds).e1)<(r_.1.length:Int))∧((out.length+[(⟨(at' r_.1 ((((at' p.racks r_1.toNat).feeds).e0).toNat)),(bif (decide (0≤(((at' p.racks r_1.toNat).feeds).e1)))then(at' r_.1 ((if((at' p.racks r_1.toNat).feeds).e1<0 then 0 else((at' p.racks r_1.toNat).feeds).e1).toNat))else false)⟩:aM)].length)*2≤140737488355328)∧(out.length+[(⟨(at' r_.1 ((((at' p.racks r_1.toNat).feeds).e0).toNat)),(bif (decide (0≤(((at' p.racks r_1.toNat).feeds).e1)))then(at' r_.1 ((if((at' p.racks r_1.toNat).feeds).e1<0 then 0 else((at' p.racks r_1.toNat).feeds).e1).toNat))else false)⟩:aM)].length≤4611686018427387904)) (
 some (.next ((out++[(⟨(at' r_.1 ((((at' p.racks r_1.toNat).feeds).e0).toNat)),(bif (decide (0≤(((at' p.racks r_1.toNat).feeds).e1)))then(at' r_.1 ((if((at' p.racks r_1.toNat).feeds).e1<0 then 0 else((at' p.racks r_1.toNat).feeds).e1).toNat))else false)⟩:aM)]),(IntKind.wrap .i64 (r_1+1))))))
 else
 some (.done (.brk out))
def Dm (p:aF) (s_:State):Option ((List aM) × Int):=
 (iL p s_).bind fun r_=>
 bif (!decide (r_.2=0))then
 some (([]:List aM),r_.2)
 else
 Option.bind (aD (FH p r_) FUEL (([]:List aM),0)) fun o=>match o with
 | .ret v=>some v
 | .brk out1=>
 some (out1,0)
def FZ (y:bE) (paths:Int) (r_1:((List aM) × Int)):Int→Option (aI Int (Ex Unit Bool)):=
 fun r_2=>
 bif (decide (r_2<(r_1.1.length:Int)))then
 aU (((0:Int)≤r_2∧r_2<(y.plant.racks.length:Int))∧(gB [((decide (paths≤((at' y.plant.racks r_2.toNat).paths))),true)]=true→(0:Int)≤r_2∧r_2<(r_1.1.length:Int))∧(gB [((bif (decide (paths≤((at' y.plant.racks r_2.toNat).paths)))then(!((at' r_1.1 r_2.toNat).e0))else false),true)]=true→(0:Int)≤r_2∧r_2<(r_1.1.length:Int))) (
 bif (bif (bif (decide (paths≤((at' y.plant.racks r_2.toNat).paths)))then(!((at' r_1.1 r_2.toNat).e0))else false)then(!((at' r_1.1 r_2.toNat).e1))else false)then
 some (.done (.ret false))
 else
 some (.next (IntKind.wrap .i64 (r_2+1))))
 else
 some (.done (.brk ()))
def uP (y:bE) (parts:(List Part)) (paths:Int):Option Bool:=
 (xQ y.plant y.state y.transfers parts).bind fun r_=>
 (Dm y.plant r_.1).bind fun r_1=>
 Option.bind (aD (FZ y paths r_1) FUEL (0)) fun o=>match o with
 | .ret v=>some v
 | .brk _=>
 some true
def Bf (p:aF):((List Part) × Int)→Option (aI ((List Part) × Int) (Ex (List Part) ((List Part) × Int))):=
 fun zz=>match zz with
 |(out,i)=>
 bif (decide (i<p.buses))then
 aU (((out.length+[(⟨1,i⟩:Part)].length)*16≤140737488355328)∧(out.length+[(⟨1,i⟩:Part)].length≤4611686018427387904)) (
 some (.next ((out++[(⟨1,i⟩:Part)]),(IntKind.wrap .i64 (i+1)))))
 else
 some (.done (.brk out))
def BS (p:aF):((List Part) × Int)→Option (aI ((List Part) × Int) (Ex (List Part) ((List Part) × Int))):=
 fun zz=>match zz with
 |(out2,i1)=>
 bif (decide (i1<(p.sources.length:Int)))then
 aU (((out2.length+[(⟨2,i1⟩:Part)].length)*16≤140737488355328)∧(out2.length+[(⟨2,i1⟩:Part)].length≤4611686018427387904)) (
 some (.next ((out2++[(⟨2,i1⟩:Part)]),(IntKind.wrap .i64 (i1+1)))))
 else
 some (.done (.brk out2))
def Cv (p:aF):((List Part) × Int)→Option (aI ((List Part) × Int) (Ex (List Part) ((List Part) × Int))):=
 fun zz=>match zz with
 |(out4,i2)=>
 bif (decide (i2<(p.links.length:Int)))then
 aU (((out4.length+[(⟨3,i2⟩:Part)].length)*16≤140737488355328)∧(out4.length+[(⟨3,i2⟩:Part)].length≤4611686018427387904)) (
 some (.next ((out4++[(⟨3,i2⟩:Part)]),(IntKind.wrap .i64 (i2+1)))))
 else
 some (.done (.brk out4))
def xK (p:aF):Option ((List Part) × Int):=
 (qA p).bind fun r_=>
 bif (!decide (r_=0))then
 some (([]:List Part),r_)
 else
 Option.bind (aD (Bf p) FUEL (([]:List Part),0)) fun o=>match o with
 | .ret v=>some v
 | .brk out1=>
 Option.bind (aD (BS p) FUEL (out1,0)) fun o=>match o with
 | .ret v=>some v
 | .brk out3=>
 Option.bind (aD (Cv p) FUEL (out3,0)) fun o=>match o with
 | .ret v=>some v
 | .brk out5=>
 some (out5,0)
def Cc (s_:State) (r_:((List Part) × Int)):((List Part) × Int)→Option (aI ((List Part) × Int) (Ex (List Part) (List Part))):=
 fun zz=>match zz with
 |(out,i)=>
 bif (decide (i<(r_.1.length:Int)))then
 aU ((0:Int)≤i∧i<(r_.1.length:Int)) (
 aU ((gB [((decide (((at' r_.1 i.toNat).kind)=1)),true)]=true→(0:Int)≤(at' r_.1 i.toNat).index∧(at' r_.1 i.toNat).index<(s_.badBus.length:Int))∧(gB [((decide (((at' r_.1 i.toNat).kind)=2)),true),((bif (decide (((at' r_.1 i.toNat).kind)=1))then(!(at' s_.badBus (((at' r_.1 i.toNat).index).toNat)))else false),false)]=true→(0:Int)≤(at' r_.1 i.toNat).index∧(at' r_.1 i.toNat).index<(s_.badSource.length:Int))∧(gB [((decide (((at' r_.1 i.toNat).kind)=3)),true),((bif (bif (decide (((at' r_.1 i.toNat).kind)=1))then(!(at' s_.badBus (((at' r_.1 i.toNat).index).toNat)))else false)then true else(bif (decide (((at' r_.1 i.toNat).kind)=2))then(!(at' s_.badSource (((at' r_.1 i.toNat).index).toNat)))else false)),false)]=true→(0:Int)≤(at' r_.1 i.toNat).index∧(at' r_.1 i.toNat).index<(s_.badLink.length:Int))) (
 bif (bif (bif (bif (decide (((at' r_.1 i.toNat).kind)=1))then(!(at' s_.badBus (((at' r_.1 i.toNat).index).toNat)))else false)then true else(bif (decide (((at' r_.1 i.toNat).kind)=2))then(!(at' s_.badSource (((at' r_.1 i.toNat).index).toNat)))else false))then true else(bif (decide (((at' r_.1 i.toNat).kind)=3))then(!(at' s_.badLink (((at' r_.1 i.toNat).index).toNat)))else false))then
 aU (((out.length+[(at' r_.1 i.toNat)].length)*16≤140737488355328)∧(out.length+[(at' r_.1 i.toNat)].length≤4611686018427387904)) (
 some (.next ((out++[(at' r_.1 i.toNat)]),(IntKind.wrap .i64 (i+1)))))
 else
 some (.next (out,(IntKind.wrap .i64 (i+1))))))
 else
 some (.done (.brk out))
def xJ (p:aF) (s_:State):Option (List Part):=
 (xK p).bind fun r_=>
 Option.bind (aD (Cc s_ r_) FUEL (([]:List Part),0)) fun o=>match o with
 | .ret v=>some v
 | .brk out1=>
 some out1
def Bw (y:bE) (jobs:(List Int)):(Int × Int)→Option (aI (Int × Int) (Ex (Int × Int) Bool)):=
 fun zz=>match zz with
 |(people,i)=>
 bif (decide (i<(jobs.length:Int)))then
 aU (((0:Int)≤i∧i<(jobs.length:Int))∧((0:Int)≤(at' jobs i.toNat)∧(at' jobs i.toNat)<(y.jobs.length:Int))) (
 some (.next ((IntKind.wrap .i64 (people+((at' y.jobs ((at' jobs i.toNat).toNat)).people))),(IntKind.wrap .i64 (i+1)))))
 else
 some (.done (.brk (y.people,people)))
def Cw (r_:(List Part)) (i1:Int):Int→Option (aI Int (Ex Unit (aI Int (Ex Unit Bool)))):=
 fun kz=>
 bif (decide (kz<i1))then
 aU (((0:Int)≤i1∧i1<(r_.length:Int))∧((0:Int)≤kz∧kz<(r_.length:Int))) (
 bif ((decide (((at' r_ i1.toNat).kind)=((at' r_ kz.toNat).kind))) && ((decide (((at' r_ i1.toNat).index)=((at' r_ kz.toNat).index))) && true))then
 some (.done (.ret (.done (.ret false))))
 else
 some (.next (IntKind.wrap .i64 (kz+1))))
 else
 some (.done (.brk ()))
def Cz (r_:(List Part)):Int→Option (aI Int (Ex Unit Bool)):=
 fun i1=>
 bif (decide (i1<(r_.length:Int)))then
 Option.bind (aD (Cw r_ i1) FUEL (0)) fun o=>match o with
 | .ret v=>some v
 | .brk _=>
 some (.next (IntKind.wrap .i64 (i1+1)))
 else
 some (.done (.brk ()))
def Bz (y:bE) (jobs:(List Int)) (y13:Int) (r_:(List Part)) (r_2:(List Part)):Int→Option (aI Int (Ex Unit Bool)):=
 fun i2=>
 bif (bif (decide (i2<(r_2.length:Int)))then y.redundant else false)then
 (mo r_).bind fun r_3=>
 (uP (⟨y.plant,y.state,y.transfers,y.jobs,y13,y.redundant⟩:bE) (r_3++[(at' r_2 i2.toNat)]) 2).bind fun r_4=>
 aU (((0:Int)≤i2∧i2<(r_2.length:Int))∧((r_3.length+[(at' r_2 i2.toNat)].length)*16≤140737488355328)∧(r_3.length+[(at' r_2 i2.toNat)].length≤4611686018427387904)) (
 bif (!r_4)then
 some (.done (.ret false))
 else
 some (.next (IntKind.wrap .i64 (i2+1))))
 else
 some (.done (.brk ()))
def yh (y:bE) (jobs:(List Int)):Option Bool:=
 Option.bind (aD (Bw y jobs) FUEL (0,0)) fun o=>match o with
 | .ret v=>some v
 | .brk (y13,people1)=>
 (yA (⟨y.plant,y.state,y.transfers,y.jobs,y13,y.redundant⟩:bE) jobs).bind fun r_=>
 Option.bind (aD (Cz r_) FUEL (0)) fun o=>match o with
 | .ret v=>some v
 | .brk _=>
 (bif gB [((decide (y13<people1)),false)]then uP (⟨y.plant,y.state,y.transfers,y.jobs,y13,y.redundant⟩:bE) r_ 1 else some default).bind fun r_1=>
 bif (bif (decide (y13<people1))then true else(!r_1))then
 some false
 else
 (xJ y.plant y.state).bind fun r_2=>
 Option.bind (aD (Bz y jobs y13 r_ r_2) FUEL (0)) fun o=>match o with
 | .ret v=>some v
 | .brk _=>
 some true
def BA (y:bE):((List Bool) × Int)→Option (aI ((List Bool) × Int) (Ex (List Bool) (List Bool))):=
 fun zz=>match zz with
 |(own,n)=>
 bif (decide (n<(own.length:Int)))then
 (bif gB [((decide (n=0)),false)]then mg n else some default).bind fun r_=>
 (bif gB [((decide (n=0)),false)]then yh y r_ else some default).bind fun r_1=>
 aU ((0:Int)≤n∧n<(own.length:Int)) (
 some (.next ((own.set n.toNat (bif (decide (n=0))then true else r_1)),(IntKind.wrap .i64 (n+1)))))
 else
 some (.done (.brk own))
def Bo (own1:(List Bool)) (n1:Int):((List Bool) × Int)→Option (aI ((List Bool) × Int) (Ex (List Bool) (aI ((List Bool) × Int) (Ex (List Bool) (List Bool))))):=
 fun zz=>match zz with
 |(out2,m)=>
 bif (decide (m≤n1))then
 aU (gB [((decide ((IntKind.wrap .i64 (((BitVec.ofInt (IntKind.bits .i64) m &&& BitVec.ofInt (IntKind.bits .i64) n1).toNat:Int)))=m)),true)]=true→(0:Int)≤m∧m<(own1.length:Int)) (
 bif (bif (decide ((IntKind.wrap .i64 (((BitVec.ofInt (IntKind.bits .i64) m &&& BitVec.ofInt (IntKind.bits .i64) n1).toNat:Int)))=m))then(!(at' own1 m.toNat))else false)then
 aU ((0:Int)≤n1∧n1<(out2.length:Int)) (
 some (.next ((out2.set n1.toNat false),(IntKind.wrap .i64 (m+1)))))
 else
 some (.next (out2,(IntKind.wrap .i64 (m+1)))))
 else
 some (.done (.brk out2))
def Cb (own1:(List Bool)):((List Bool) × Int)→Option (aI ((List Bool) × Int) (Ex (List Bool) (List Bool))):=
 fun zz=>match zz with
 |(out,n1)=>
 bif (decide (n1<(own1.length:Int)))then
 aU ((0:Int)≤n1∧n1<(out.length:Int)) (
 Option.bind (aD (Bo own1 n1) FUEL ((out.set n1.toNat true),1)) fun o=>match o with
 | .ret v=>some v
 | .brk out3=>
 some (.next (out3,(IntKind.wrap .i64 (n1+1)))))
 else
 some (.done (.brk out))
def kZ (y:bE):Option (List Bool):=
 aU (((0:Int)≤(y.jobs.length:Int))∧((0:Int)≤(IntKind.wrap .i64 ((1:Int)*2 ^ min (y.jobs.length:Int).toNat (IntKind.bits .i64))))∧((1:Int)*(IntKind.wrap .i64 ((1:Int)*2 ^ min (y.jobs.length:Int).toNat (IntKind.bits .i64)))≤281474976710656)∧(((IntKind.wrap .i64 ((1:Int)*2 ^ min (y.jobs.length:Int).toNat (IntKind.bits .i64))):Int)≤9223372036854775807)) (
 aU (((0:Int)≤(y.jobs.length:Int))∧((0:Int)≤(IntKind.wrap .i64 ((1:Int)*2 ^ min (y.jobs.length:Int).toNat (IntKind.bits .i64))))∧((1:Int)*(IntKind.wrap .i64 ((1:Int)*2 ^ min (y.jobs.length:Int).toNat (IntKind.bits .i64)))≤281474976710656)∧(((IntKind.wrap .i64 ((1:Int)*2 ^ min (y.jobs.length:Int).toNat (IntKind.bits .i64))):Int)≤9223372036854775807)) (
 Option.bind (aD (BA y) FUEL ((List.replicate ((IntKind.wrap .i64 ((1:Int)*2 ^ min (y.jobs.length:Int).toNat (IntKind.bits .i64))).toNat) (false:Bool)),0)) fun o=>match o with
 | .ret v=>some v
 | .brk own1=>
 Option.bind (aD (Cb own1) FUEL ((List.replicate ((IntKind.wrap .i64 ((1:Int)*2 ^ min (y.jobs.length:Int).toNat (IntKind.bits .i64))).toNat) (false:Bool)),0)) fun o=>match o with
 | .ret v=>some v
 | .brk out1=>
 some out1))
def AB (a:(List Int)) (b:(List Int)):Int→Option (aI Int (Ex Unit Bool)):=
 fun i=>
 bif (decide (i<(a.length:Int)))then
 aU (((0:Int)≤i∧i<(a.length:Int))∧((0:Int)≤i∧i<(b.length:Int))) (
 bif (!decide ((at' a i.toNat)=(at' b i.toNat)))then
 aU (((0:Int)≤i∧i<(a.length:Int))∧((0:Int)≤i∧i<(b.length:Int))) (
 some (.done (.ret (decide ((at' a i.toNat)<(at' b i.toNat))))))
 else
 some (.next (IntKind.wrap .i64 (i+1))))
 else
 some (.done (.brk ()))
def vM (a:(List Int)) (b:(List Int)):Option Bool:=
 bif (!decide ((a.length:Int)=(b.length:Int)))then
 some (decide ((a.length:Int)<(b.length:Int)))
 else
 Option.bind (aD (AB a b) FUEL (0)) fun o=>match o with
 | .ret v=>some v
 | .brk _=>
 some false
def EZ (r_1:(List Bool)) (n:Int):(Bool × Int)→Option (aI (Bool × Int) (Ex Bool (aI ((List (List Int)) × Int) (Ex (List (List Int)) ((List (List Int)) × Int))))):=
 fun zz=>match zz with
 |(least,m)=>
 bif (decide (m<n))then
 aU (gB [((decide ((IntKind.wrap .i64 (((BitVec.ofInt (IntKind.bits .i64) m &&& BitVec.ofInt (IntKind.bits .i64) n).toNat:Int)))=m)),true)]=true→(0:Int)≤m∧m<(r_1.length:Int)) (
 bif (bif (decide ((IntKind.wrap .i64 (((BitVec.ofInt (IntKind.bits .i64) m &&& BitVec.ofInt (IntKind.bits .i64) n).toNat:Int)))=m))then(!(at' r_1 m.toNat))else false)then
 some (.next (false,(IntKind.wrap .i64 (m+1))))
 else
 some (.next (least,(IntKind.wrap .i64 (m+1)))))
 else
 some (.done (.brk least))
def F3 (out:(List (List Int))) (r_2:(List Int)):Int→Option (aI Int (Ex Int (aI ((List (List Int)) × Int) (Ex (List (List Int)) ((List (List Int)) × Int))))):=
 fun at_=>
 (bif gB [((decide (0<at_)),true)]then vM r_2 (at' out ((IntKind.wrap .i64 (at_ - 1)).toNat))else some default).bind fun r_3=>
 aU (gB [((decide (0<at_)),true)]=true→(0:Int)≤(IntKind.wrap .i64 (at_ - 1))∧(IntKind.wrap .i64 (at_ - 1))<(out.length:Int)) (
 bif (bif (decide (0<at_))then r_3 else false)then
 some (.next (IntKind.wrap .i64 (at_ - 1)))
 else
 some (.done (.brk at_)))
def EB (r_1:(List Bool)):((List (List Int)) × Int)→Option (aI ((List (List Int)) × Int) (Ex (List (List Int)) ((List (List Int)) × Int))):=
 fun zz=>match zz with
 |(out,n)=>
 bif (decide (n<(r_1.length:Int)))then
 aU ((0:Int)≤n∧n<(r_1.length:Int)) (
 Option.bind (aD (EZ r_1 n) FUEL ((!(at' r_1 n.toNat)),0)) fun o=>match o with
 | .ret v=>some v
 | .brk least1=>
 bif (!least1)then
 some (.next (out,(IntKind.wrap .i64 (n+1))))
 else
 (mg n).bind fun r_2=>
 Option.bind (aD (F3 out r_2) FUEL (out.length:Int)) fun o=>match o with
 | .ret v=>some v
 | .brk at_1=>
 aU (((0:Int)≤at_1∧at_1≤(out.length:Int))∧(at_1.toNat*24≤140737488355328)∧(at_1.toNat≤4611686018427387904)) (
 aU ((((kU out 0 at_1.toNat).length+[r_2].length)*24≤140737488355328)∧((kU out 0 at_1.toNat).length+[r_2].length≤4611686018427387904)) (
 aU (((0:Int)≤at_1∧at_1≤(out.length:Int))∧((((kU out 0 at_1.toNat)++[r_2]).length+(out.length - at_1.toNat))*24≤140737488355328)∧(((kU out 0 at_1.toNat)++[r_2]).length+(out.length - at_1.toNat)≤4611686018427387904)) (
 some (.next ((((kU out 0 at_1.toNat)++[r_2])++(out.drop at_1.toNat)),(IntKind.wrap .i64 (n+1))))))))
 else
 some (.done (.brk out))
def Dc (y:bE):Option ((List (List Int)) × Int):=
 (iX y).bind fun r_=>
 bif (!decide (r_=0))then
 some (([]:List (List Int)),r_)
 else
 (kZ y).bind fun r_1=>
 Option.bind (aD (EB r_1) FUEL (([]:List (List Int)),1)) fun o=>match o with
 | .ret v=>some v
 | .brk out1=>
 some (out1,0)
def zQ (a:(List Int)) (b:(List Int)):Int→Option (aI Int (Ex Unit Bool)):=
 fun i=>
 bif (decide (i<(a.length:Int)))then
 aU (((0:Int)≤i∧i<(a.length:Int))∧((0:Int)≤i∧i<(b.length:Int))) (
 bif (!decide ((at' a i.toNat)=(at' b i.toNat)))then
 some (.done (.ret false))
 else
 some (.next (IntKind.wrap .i64 (i+1))))
 else
 some (.done (.brk ()))
def nP (a:(List Int)) (b:(List Int)):Option Bool:=
 bif (!decide ((a.length:Int)=(b.length:Int)))then
 some false
 else
 Option.bind (aD (zQ a b) FUEL (0)) fun o=>match o with
 | .ret v=>some v
 | .brk _=>
 some true
def vo (a:(List Int)) (b:(List Int)):Option Bool:=
 (nP a b).bind fun r_=>
 some r_
def zD (a:(List (List Int))) (b:(List (List Int))):Int→Option (aI Int (Ex Unit Bool)):=
 fun i=>
 bif (decide (i<(a.length:Int)))then
 (vo (at' a i.toNat) (at' b i.toNat)).bind fun r_=>
 aU (((0:Int)≤i∧i<(a.length:Int))∧((0:Int)≤i∧i<(b.length:Int))) (
 bif (!r_)then
 some (.done (.ret false))
 else
 some (.next (IntKind.wrap .i64 (i+1))))
 else
 some (.done (.brk ()))
def jd (a:(List (List Int))) (b:(List (List Int))):Option Bool:=
 bif (!decide ((a.length:Int)=(b.length:Int)))then
 some false
 else
 Option.bind (aD (zD a b) FUEL (0)) fun o=>match o with
 | .ret v=>some v
 | .brk _=>
 some true
def yw (x:aC) (int:Int):Option Bool:=
 some (decide (int≤(IntKind.wrap .i64 (x.from_+x.hours))))
def ql (s_:(List aC)) (int:Int):Int→Option (aI Int (Ex Unit Int)):=
 fun t8=>
 bif (decide (t8<(s_.length:Int)))then
 (yw (at' s_ t8.toNat) int).bind fun r_=>
 aU ((0:Int)≤t8∧t8<(s_.length:Int)) (
 bif r_ then
 some (.done (.ret t8))
 else
 some (.next (IntKind.wrap .i64 (t8+1))))
 else
 some (.done (.brk ()))
def kI (s_:(List aC)) (int:Int):Option Int:=
 Option.bind (aD (ql s_ int) FUEL (0)) fun o=>match o with
 | .ret v=>some v
 | .brk _=>
 some (-1)
def ja (s_:(List aC)) (int:Int):Option Bool:=
 (kI s_ int).bind fun r_=>
 some (decide (0≤r_))
def yF (y:aj) (starts:(List Int)):(Int × Int)→Option (aI (Int × Int) (Ex Int Int)):=
 fun zz=>match zz with
 |(n,t10)=>
 bif (decide (t10<(starts.length:Int)))then
 aU ((0:Int)≤t10∧t10<(starts.length:Int)) (
 aU ((0:Int)≤t10∧t10<(y.jobs.length:Int)) (
 some (.next ((if n<(IntKind.wrap .i64 ((at' starts t10.toNat)+((at' y.jobs t10.toNat).hours)))then(IntKind.wrap .i64 ((at' starts t10.toNat)+((at' y.jobs t10.toNat).hours)))else n),(IntKind.wrap .i64 (t10+1))))))
 else
 some (.done (.brk n))
def je (y:aj) (starts:(List Int)):Option Int:=
 Option.bind (aD (yF y starts) FUEL (0,0)) fun o=>match o with
 | .ret v=>some v
 | .brk n1=>
 some n1
def o7 (s_:(List Int)) (s_nn:Bool):Option (List Int):=
 bif (!s_nn)then
 some ([]:List Int)
 else
 aU (((([]:List Int).length+s_.length)*8≤140737488355328)∧(([]:List Int).length+s_.length≤4611686018427387904)) (
 some (([]:List Int)++s_))
def mF (s:(List Int)):Option (List Int):=o7 s true
def lN (kz:Int) (x1:(List Int)) (x2:Int) (x21:(List Source)) (x22:(List Link)) (x23:(List aO)) (x24:(List Bool)) (x25:(List Bool)) (x26:(List Bool)) (x27:(List Bool)) (x28:(List Bool)) (x29:(List Bool)) (x210:(List Bool)) (x211:(List Transfer)) (x212:(List aC)) (x213:Int) (x214:Bool) (x3:Int):Option Bool:=
 aU (((0:Int)≤kz∧kz<(x1.length:Int))∧((0:Int)≤kz∧kz<(x212.length:Int))∧((0:Int)≤x3∧x3<(x1.length:Int))) (
 some (decide ((at' x1 x3.toNat)<(IntKind.wrap .i64 ((at' x1 kz.toNat)+((at' x212 kz.toNat).hours))))))
def mU (s_:(List Int)) (f_:(List Int)) (f_1:Int) (f_2:(List Source)) (f_3:(List Link)) (f_4:(List aO)) (f_5:(List Bool)) (f_6:(List Bool)) (f_7:(List Bool)) (f_8:(List Bool)) (f_9:(List Bool)) (f_10:(List Bool)) (f_11:(List Bool)) (f_12:(List Transfer)) (f_13:(List aC)) (f_14:Int) (f_15:Bool) (f_16:Int):Int→Option (aI Int (Ex Unit Int)):=
 fun t8=>
 bif (decide (t8<(s_.length:Int)))then
 (lN (at' s_ t8.toNat) f_ f_1 f_2 f_3 f_4 f_5 f_6 f_7 f_8 f_9 f_10 f_11 f_12 f_13 f_14 f_15 f_16).bind fun r_=>
 aU ((0:Int)≤t8∧t8<(s_.length:Int)) (
 bif r_ then
 some (.done (.ret t8))
 else
 some (.next (IntKind.wrap .i64 (t8+1))))
 else
 some (.done (.brk ()))
def iZ (s_:(List Int)) (f_:(List Int)) (f_1:Int) (f_2:(List Source)) (f_3:(List Link)) (f_4:(List aO)) (f_5:(List Bool)) (f_6:(List Bool)) (f_7:(List Bool)) (f_8:(List Bool)) (f_9:(List Bool)) (f_10:(List Bool)) (f_11:(List Bool)) (f_12:(List Transfer)) (f_13:(List aC)) (f_14:Int) (f_15:Bool) (f_16:Int):Option Int:=
 Option.bind (aD (mU s_ f_ f_1 f_2 f_3 f_4 f_5 f_6 f_7 f_8 f_9 f_10 f_11 f_12 f_13 f_14 f_15 f_16) FUEL (0)) fun o=>match o with
 | .ret v=>some v
 | .brk _=>
 some (-1)
def gY (s_:(List Int)) (f_:(List Int)) (f_1:Int) (f_2:(List Source)) (f_3:(List Link)) (f_4:(List aO)) (f_5:(List Bool)) (f_6:(List Bool)) (f_7:(List Bool)) (f_8:(List Bool)) (f_9:(List Bool)) (f_10:(List Bool)) (f_11:(List Bool)) (f_12:(List Transfer)) (f_13:(List aC)) (f_14:Int) (f_15:Bool) (f_16:Int):Option Bool:=
 (iZ s_ f_ f_1 f_2 f_3 f_4 f_5 f_6 f_7 f_8 f_9 f_10 f_11 f_12 f_13 f_14 f_15 f_16).bind fun r_=>
 some (decide (0≤r_))
def jk (y:aj) (starts:(List Int)) (i:Int):Option Bool:=
 aU ((0:Int)≤i∧i<(y.jobs.length:Int)) (
 (bif gB [((bif (decide (((at' y.jobs i.toNat).from_)≤(at' starts i.toNat)))then(decide ((at' starts i.toNat)≤(IntKind.wrap .i64 (((at' y.jobs i.toNat).to_) - ((at' y.jobs i.toNat).hours)))))else false),true)]then gY ((at' y.jobs i.toNat).after) starts y.plant.buses y.plant.sources y.plant.links y.plant.racks y.state.closed y.state.locked y.state.badLink y.state.on_ y.state.badSource y.state.earthed y.state.badBus y.transfers y.jobs y.people y.redundant i else some default).bind fun r_=>
 aU (((0:Int)≤i∧i<(starts.length:Int))∧(gB [((decide (((at' y.jobs i.toNat).from_)≤(at' starts i.toNat))),true)]=true→(0:Int)≤i∧i<(starts.length:Int))) (
 some (bif (bif (decide (((at' y.jobs i.toNat).from_)≤(at' starts i.toNat)))then(decide ((at' starts i.toNat)≤(IntKind.wrap .i64 (((at' y.jobs i.toNat).to_) - ((at' y.jobs i.toNat).hours)))))else false)then(!r_)else false)))
def BV (o_:(List Int)) (yard:aj) (o02:(List (Int × Bool))) (o06:(List Int)) (at_:Int):(Bool × Int)→Option (aI (Bool × Int) (Ex Bool (aI ((List Int) × Int × (List Int) × (List (Int × Bool)) × (List Int) × Int) (Ex ((List Int) × Int × (List Int) × (List (Int × Bool)) × (List Int)) ((List Int) × Int × (List Int) × (List (Int × Bool)) × (List Int)))))):=
 fun zz=>match zz with
 |(fits,h_)=>
 bif (bif (decide (h_<(IntKind.wrap .i64 (at_+((at' yard.jobs ((o_.length:Int).toNat)).hours)))))then fits else false)then
 (dh).bind fun r_4=>
 aU (((0:Int)≤h_∧h_<(48:Nat))∧(h_.toNat<o06.length)∧((0:Int)≤(o_.length:Int)∧(o_.length:Int)<((5:Nat):Int))) (
 some (.next (((bU dP (IntKind.wrap .u8 (((BitVec.ofInt (IntKind.bits .u8) (at' o06 h_.toNat)|||BitVec.ofInt (IntKind.bits .u8) (at' [r_4.e0,r_4.e1,r_4.e2,r_4.e3,r_4.e4] ((o_.length:Int).toNat))).toNat:Int))) o02).getD false),(IntKind.wrap .i64 (h_+1)))))
 else
 some (.done (.brk fits))
def Br (o_:(List Int)) (yard:aj) (at_:Int):((List Int) × Int)→Option (aI ((List Int) × Int) (Ex (List Int) (aI ((List Int) × Int × (List Int) × (List (Int × Bool)) × (List Int) × Int) (Ex ((List Int) × Int × (List Int) × (List (Int × Bool)) × (List Int)) ((List Int) × Int × (List Int) × (List (Int × Bool)) × (List Int)))))):=
 fun zz=>match zz with
 |(o062,h_1)=>
 bif (decide (h_1<(IntKind.wrap .i64 (at_+((at' yard.jobs ((o_.length:Int).toNat)).hours)))))then
 (dh).bind fun r_5=>
 aU (((0:Int)≤h_1∧h_1<(48:Nat))∧(h_1.toNat<o062.length)∧((0:Int)≤(o_.length:Int)∧(o_.length:Int)<((5:Nat):Int))) (
 some (.next ((o062.set h_1.toNat (IntKind.wrap .u8 (((BitVec.ofInt (IntKind.bits .u8) (at' o062 h_1.toNat)|||BitVec.ofInt (IntKind.bits .u8) (at' [r_5.e0,r_5.e1,r_5.e2,r_5.e3,r_5.e4] ((o_.length:Int).toNat))).toNat:Int)))),(IntKind.wrap .i64 (h_1+1)))))
 else
 some (.done (.brk o062))
def Cn (o_:(List Int)) (yard:aj) (at_:Int):((List Int) × Int)→Option (aI ((List Int) × Int) (Ex (List Int) (aI ((List Int) × Int × (List Int) × (List (Int × Bool)) × (List Int) × Int) (Ex ((List Int) × Int × (List Int) × (List (Int × Bool)) × (List Int)) ((List Int) × Int × (List Int) × (List (Int × Bool)) × (List Int)))))):=
 fun zz=>match zz with
 |(o064,h_2)=>
 bif (decide (h_2<(IntKind.wrap .i64 (at_+((at' yard.jobs ((o_.length:Int).toNat)).hours)))))then
 (dh).bind fun r_7=>
 aU (((0:Int)≤h_2∧h_2<(48:Nat))∧(h_2.toNat<o064.length)∧((0:Int)≤(o_.length:Int)∧(o_.length:Int)<((5:Nat):Int))) (
 some (.next ((o064.set h_2.toNat (IntKind.wrap .u8 (((BitVec.ofInt (IntKind.bits .u8) (at' o064 h_2.toNat) &&& ~~~ BitVec.ofInt (IntKind.bits .u8) (at' [r_7.e0,r_7.e1,r_7.e2,r_7.e3,r_7.e4] ((o_.length:Int).toNat))).toNat:Int)))),(IntKind.wrap .i64 (h_2+1)))))
 else
 some (.done (.brk o064))
def Cq (rec:(List Int)→aj→Int→(List Int)→(List (Int × Bool))→(List Int)→Option ((List Int) × Int × (List Int) × (List (Int × Bool)) × (List Int))) (o_:(List Int)) (yard:aj):((List Int) × Int × (List Int) × (List (Int × Bool)) × (List Int) × Int)→Option (aI ((List Int) × Int × (List Int) × (List (Int × Bool)) × (List Int) × Int) (Ex ((List Int) × Int × (List Int) × (List (Int × Bool)) × (List Int)) ((List Int) × Int × (List Int) × (List (Int × Bool)) × (List Int)))):=
 fun zz=>match zz with
 |(o0,o000,o01,o02,o06,at_)=>
 bif (bif (decide (at_≤(IntKind.wrap .i64 (((at' yard.jobs ((o_.length:Int).toNat)).to_) - ((at' yard.jobs ((o_.length:Int).toNat)).hours)))))then(decide ((IntKind.wrap .i64 (at_+((at' yard.jobs ((o_.length:Int).toNat)).hours)))<o000))else false)then
 aU (((o0.length+[at_].length)*8≤140737488355328)∧(o0.length+[at_].length≤4611686018427387904)) (
 (jk yard (o0++[at_]) (o_.length:Int)).bind fun r_3=>
 Option.bind (aD (BV o_ yard o02 o06 at_) FUEL (r_3,at_)) fun o=>match o with
 | .ret v=>some v
 | .brk fits1=>
 bif fits1 then
 Option.bind (aD (Br o_ yard at_) FUEL (o06,at_)) fun o=>match o with
 | .ret v=>some v
 | .brk o063=>
 (rec (o0++[at_]) yard o000 o01 o02 o063).bind fun r_6=>
 Option.bind (aD (Cn o_ yard at_) FUEL (r_6.2.2.2.2,at_)) fun o=>match o with
 | .ret v=>some v
 | .brk o065=>
 aU ((0:Int)≤(o_.length:Int)∧(o_.length:Int)≤(r_6.1.length:Int)) (
 some (.next ((r_6.1.take ((o_.length:Int).toNat)),r_6.2.1,r_6.2.2.1,r_6.2.2.2.1,o065,(IntKind.wrap .i64 (at_+1)))))
 else
 aU ((0:Int)≤(o_.length:Int)∧(o_.length:Int)≤((o0++[at_]).length:Int)) (
 some (.next (((o0++[at_]).take ((o_.length:Int).toNat)),o000,o01,o02,o06,(IntKind.wrap .i64 (at_+1))))))
 else
 some (.done (.brk (o0,o000,o01,o02,o06)))
def nZ (rec:(List Int)→aj→Int→(List Int)→(List (Int × Bool))→(List Int)→Option ((List Int) × Int × (List Int) × (List (Int × Bool)) × (List Int))) (o_:(List Int)) (yard:aj) (int:Int) (o_1:(List Int)) (o_2:(List (Int × Bool))) (l:(List Int)):Option ((List Int) × Int × (List Int) × (List (Int × Bool)) × (List Int)):=
 (ja (yard.jobs.drop ((o_.length:Int).toNat)) int).bind fun r_=>
 aU ((0:Int)≤(o_.length:Int)∧(o_.length:Int)≤(yard.jobs.length:Int)) (
 bif r_ then
 some (o_,int,o_1,o_2,l)
 else
 bif (decide ((o_.length:Int)=(yard.jobs.length:Int)))then
 (je yard o_).bind fun r_1=>
 bif (decide (r_1<int))then
 (mF o_).bind fun r_2=>
 some (o_,r_1,r_2,o_2,l)
 else
 some (o_,int,o_1,o_2,l)
 else
 aU ((0:Int)≤(o_.length:Int)∧(o_.length:Int)<(yard.jobs.length:Int)) (
 Option.bind (aD (Cq rec o_ yard) FUEL (o_,int,o_1,o_2,l,(at' yard.jobs ((o_.length:Int).toNat)).from_)) fun o=>match o with
 | .ret v=>some v
 | .brk (o03,o0001,o04,o05,o061)=>
 some (o03,o0001,o04,o05,o061)))
def lm:Nat→(List Int)→aj→Int→(List Int)→(List (Int × Bool))→(List Int)→Option ((List Int) × Int × (List Int) × (List (Int × Bool)) × (List Int))
 |0,_,_,_,_,_,_=>none
 |n+1,o_,yard,int,o_1,o_2,l=>nZ (lm n) o_ yard int o_1 o_2 l
def FR (y:aj) (r_1:(List (Int × Bool))):Int→Option (aI Int (Ex Unit ((List Int) × Int))):=
 fun t23=>
 bif (decide (t23<(y.jobs.length:Int)))then
 (dh).bind fun r_2=>
 aU ((0:Int)≤t23∧t23<((5:Nat):Int)) (
 bif (!((bU dP (at' [r_2.e0,r_2.e1,r_2.e2,r_2.e3,r_2.e4] t23.toNat) r_1).getD false))then
 some (.done (.ret (([]:List Int),4)))
 else
 some (.next (IntKind.wrap .i64 (t23+1))))
 else
 some (.done (.brk ()))
def jF (y:aj):Option ((List Int) × Int):=
 (iJ y).bind fun r_=>
 bif (!decide (r_=0))then
 some (([]:List Int),r_)
 else
 (eG y).bind fun r_1=>
 Option.bind (aD (FR y r_1) FUEL (0)) fun o=>match o with
 | .ret v=>some v
 | .brk _=>
 (lm FUEL ([]:List Int) y 49 ([]:List Int) r_1 (List.replicate 48 (0:Int))).bind fun r_3=>
 bif (decide (48<r_3.2.1))then
 some (([]:List Int),4)
 else
 some (r_3.2.2.1,0)
def Bv (y:bE) (starts:(List Int)) (i:Int):Int→Option (aI Int (Ex Unit Bool)):=
 fun kz=>
 bif (decide (kz<(((at' y.jobs i.toNat).after).length:Int)))then
 aU (((0:Int)≤kz∧kz<(((at' y.jobs i.toNat).after).length:Int))∧((0:Int)≤(at' ((at' y.jobs i.toNat).after) kz.toNat)∧(at' ((at' y.jobs i.toNat).after) kz.toNat)<(starts.length:Int))∧((0:Int)≤(at' ((at' y.jobs i.toNat).after) kz.toNat)∧(at' ((at' y.jobs i.toNat).after) kz.toNat)<(y.jobs.length:Int))∧((0:Int)≤i∧i<(starts.length:Int))) (
 bif (decide ((at' starts i.toNat)<(IntKind.wrap .i64 ((at' starts ((at' ((at' y.jobs i.toNat).after) kz.toNat).toNat))+((at' y.jobs ((at' ((at' y.jobs i.toNat).after) kz.toNat).toNat)).hours)))))then
 some (.done (.ret true))
 else
 some (.next (IntKind.wrap .i64 (kz+1))))
 else
 some (.done (.brk ()))
def xY (y:bE) (starts:(List Int)) (i:Int):Option Bool:=
 aU ((0:Int)≤i∧i<(y.jobs.length:Int)) (
 aU (((0:Int)≤i∧i<(starts.length:Int))∧(gB [((decide ((at' starts i.toNat)<((at' y.jobs i.toNat).from_))),false)]=true→(0:Int)≤i∧i<(starts.length:Int))∧(gB [((bif (decide ((at' starts i.toNat)<((at' y.jobs i.toNat).from_)))then true else(decide (((at' y.jobs i.toNat).to_)<(at' starts i.toNat)))),false)]=true→(0:Int)≤i∧i<(starts.length:Int))) (
 bif (bif (bif (decide ((at' starts i.toNat)<((at' y.jobs i.toNat).from_)))then true else(decide (((at' y.jobs i.toNat).to_)<(at' starts i.toNat))))then true else(decide (((at' y.jobs i.toNat).to_)<(IntKind.wrap .i64 ((at' starts i.toNat)+((at' y.jobs i.toNat).hours))))))then
 some true
 else
 Option.bind (aD (Bv y starts i) FUEL (0)) fun o=>match o with
 | .ret v=>some v
 | .brk _=>
 some false))
def Fj (y:bE) (starts:(List Int)):(Int × Int)→Option (aI (Int × Int) (Ex Int Int)):=
 fun zz=>match zz with
 |(n,i)=>
 bif (decide (i<(starts.length:Int)))then
 aU (((0:Int)≤i∧i<(starts.length:Int))∧((0:Int)≤i∧i<(y.jobs.length:Int))) (
 some (.next ((if n<(IntKind.wrap .i64 ((at' starts i.toNat)+((at' y.jobs i.toNat).hours)))then(IntKind.wrap .i64 ((at' starts i.toNat)+((at' y.jobs i.toNat).hours)))else n),(IntKind.wrap .i64 (i+1)))))
 else
 some (.done (.brk n))
def Dp (y:bE) (starts:(List Int)):Option Int:=
 Option.bind (aD (Fj y starts) FUEL (0,0)) fun o=>match o with
 | .ret v=>some v
 | .brk n1=>
 some n1
def DT (y:bE) (starts:(List Int)) (h_:Int):(Int × Int)→Option (aI (Int × Int) (Ex Int Int)):=
 fun zz=>match zz with
 |(n,i)=>
 bif (decide (i<(starts.length:Int)))then
 aU (((0:Int)≤i∧i<(starts.length:Int))∧(gB [((decide ((at' starts i.toNat)≤h_)),true)]=true→(0:Int)≤i∧i<(starts.length:Int))∧(gB [((decide ((at' starts i.toNat)≤h_)),true)]=true→(0:Int)≤i∧i<(y.jobs.length:Int))) (
 bif (bif (decide ((at' starts i.toNat)≤h_))then(decide (h_<(IntKind.wrap .i64 ((at' starts i.toNat)+((at' y.jobs i.toNat).hours)))))else false)then
 aU ((0:Int)≤i) (
 some (.next ((IntKind.wrap .i64 (n+(IntKind.wrap .i64 ((1:Int)*2 ^ min i.toNat (IntKind.bits .i64))))),(IntKind.wrap .i64 (i+1)))))
 else
 some (.next (n,(IntKind.wrap .i64 (i+1)))))
 else
 some (.done (.brk n))
def Al (y:bE) (starts:(List Int)) (h_:Int):Option Int:=
 Option.bind (aD (DT y starts h_) FUEL (0,0)) fun o=>match o with
 | .ret v=>some v
 | .brk n1=>
 some n1
def zY (y:bE) (starts:(List Int)):Int→Option (aI Int (Ex Unit (Int × Int))):=
 fun i=>
 bif (decide (i<(starts.length:Int)))then
 (xY y starts i).bind fun r_=>
 bif r_ then
 some (.done (.ret (0,60)))
 else
 some (.next (IntKind.wrap .i64 (i+1)))
 else
 some (.done (.brk ()))
def zW (y:bE) (table:(List Bool)) (starts:(List Int)) (r_1:Int):Int→Option (aI Int (Ex Unit (Int × Int))):=
 fun h_=>
 bif (decide (h_<r_1))then
 (Al y starts h_).bind fun r_2=>
 aU ((0:Int)≤r_2∧r_2<(table.length:Int)) (
 bif (!(at' table r_2.toNat))then
 some (.done (.ret (h_,120)))
 else
 some (.next (IntKind.wrap .i64 (h_+1))))
 else
 some (.done (.brk ()))
def uM (y:bE) (table:(List Bool)) (starts:(List Int)):Option (Int × Int):=
 Option.bind (aD (zY y starts) FUEL (0)) fun o=>match o with
 | .ret v=>some v
 | .brk _=>
 (Dp y starts).bind fun r_1=>
 Option.bind (aD (zW y table starts r_1) FUEL (0)) fun o=>match o with
 | .ret v=>some v
 | .brk _=>
 some (r_1,0)
def vz (y:bE) (starts:(List Int)):Option (Int × Int):=
 (iX y).bind fun r_=>
 bif (!decide (r_=0))then
 some (0,r_)
 else
 bif (!decide ((starts.length:Int)=(y.jobs.length:Int)))then
 some (0,1)
 else
 (kZ y).bind fun r_1=>
 (uM y r_1 starts).bind fun r_2=>
 some (r_2.1,r_2.2)
def wZ (y:bE) (jobs:(List Int)):(Int × Int)→Option (aI (Int × Int) (Ex Int (Bool × Int))):=
 fun zz=>match zz with
 |(n,i)=>
 bif (decide (i<(jobs.length:Int)))then
 aU (((0:Int)≤i∧i<(jobs.length:Int))∧(gB [((decide ((at' jobs i.toNat)<0)),false)]=true→(0:Int)≤i∧i<(jobs.length:Int))∧(gB [((bif (decide ((at' jobs i.toNat)<0))then true else(decide ((y.jobs.length:Int)≤(at' jobs i.toNat)))),false)]=true→(0:Int)≤i∧i<(jobs.length:Int))∧(gB [((bif (decide ((at' jobs i.toNat)<0))then true else(decide ((y.jobs.length:Int)≤(at' jobs i.toNat)))),false)]=true→(0:Int)≤(at' jobs i.toNat))∧(gB [((bif (decide ((at' jobs i.toNat)<0))then true else(decide ((y.jobs.length:Int)≤(at' jobs i.toNat)))),false)]=true→2≠(0:Int))) (
 bif (bif (bif (decide ((at' jobs i.toNat)<0))then true else(decide ((y.jobs.length:Int)≤(at' jobs i.toNat))))then true else(decide ((Int.tmod (Int.fdiv n (2 ^ min (at' jobs i.toNat).toNat (IntKind.bits .i64))) 2)=1)))then
 some (.done (.ret (false,1)))
 else
 aU (((0:Int)≤i∧i<(jobs.length:Int))∧((0:Int)≤(at' jobs i.toNat))) (
 some (.next ((IntKind.wrap .i64 (n+(IntKind.wrap .i64 ((1:Int)*2 ^ min (at' jobs i.toNat).toNat (IntKind.bits .i64))))),(IntKind.wrap .i64 (i+1))))))
 else
 some (.done (.brk n))
def kR (y:bE) (jobs:(List Int)):Option (Bool × Int):=
 (iX y).bind fun r_=>
 bif (!decide (r_=0))then
 some (false,r_)
 else
 Option.bind (aD (wZ y jobs) FUEL (0,0)) fun o=>match o with
 | .ret v=>some v
 | .brk n1=>
 (kZ y).bind fun r_1=>
 aU ((0:Int)≤n1∧n1<(r_1.length:Int)) (
 some ((at' r_1 n1.toNat),0))
def rZ (y:aj) (starts:(List Int)) (h_:Int):(Int × Int)→Option (aI (Int × Int) (Ex Int Int)):=
 fun zz=>match zz with
 |(s_,t12)=>
 bif (decide (t12<(starts.length:Int)))then
 aU ((0:Int)≤t12∧t12<(starts.length:Int)) (
 aU (gB [((decide ((at' starts t12.toNat)≤h_)),true)]=true→(0:Int)≤t12∧t12<(y.jobs.length:Int)) (
 bif (bif (decide ((at' starts t12.toNat)≤h_))then(decide (h_<(IntKind.wrap .i64 ((at' starts t12.toNat)+((at' y.jobs t12.toNat).hours)))))else false)then
 (dh).bind fun r_=>
 aU ((0:Int)≤t12∧t12<((5:Nat):Int)) (
 some (.next ((IntKind.wrap .u8 (((BitVec.ofInt (IntKind.bits .u8) s_|||BitVec.ofInt (IntKind.bits .u8) (at' [r_.e0,r_.e1,r_.e2,r_.e3,r_.e4] t12.toNat)).toNat:Int))),(IntKind.wrap .i64 (t12+1)))))
 else
 some (.next (s_,(IntKind.wrap .i64 (t12+1))))))
 else
 some (.done (.brk s_))
def mG (y:aj) (starts:(List Int)) (h_:Int):Option Int:=
 Option.bind (aD (rZ y starts h_) FUEL (0,0)) fun o=>match o with
 | .ret v=>some v
 | .brk s_1=>
 some s_1
def Bl (y:aj) (starts:(List Int)):Int→Option (aI Int (Ex Unit (Int × Int))):=
 fun t23=>
 bif (decide (t23<(starts.length:Int)))then
 (jk y starts t23).bind fun r_1=>
 bif (!r_1)then
 some (.done (.ret (0,60)))
 else
 some (.next (IntKind.wrap .i64 (t23+1)))
 else
 some (.done (.brk ()))
def Bg (y:aj) (starts:(List Int)) (r_2:(List (Int × Bool))) (r_3:Int):Int→Option (aI Int (Ex Unit (Int × Int))):=
 fun t37=>
 bif (decide (t37<r_3))then
 (mG y starts t37).bind fun r_4=>
 bif (!((bU dP r_4 r_2).getD false))then
 some (.done (.ret (t37,120)))
 else
 some (.next (IntKind.wrap .i64 (t37+1)))
 else
 some (.done (.brk ()))
def qB (y:aj) (starts:(List Int)):Option (Int × Int):=
 (iJ y).bind fun r_=>
 bif (!decide (r_=0))then
 some (0,r_)
 else
 bif (!decide ((starts.length:Int)=(y.jobs.length:Int)))then
 some (0,1)
 else
 Option.bind (aD (Bl y starts) FUEL (0)) fun o=>match o with
 | .ret v=>some v
 | .brk _=>
 (eG y).bind fun r_2=>
 (je y starts).bind fun r_3=>
 Option.bind (aD (Bg y starts r_2 r_3) FUEL (0)) fun o=>match o with
 | .ret v=>some v
 | .brk _=>
 (je y starts).bind fun r_5=>
 some (r_5,0)
def yO (y:aj) (jobs:(List Int)):(Int × Int)→Option (aI (Int × Int) (Ex Int (Bool × Int))):=
 fun zz=>match zz with
 |(s_,t17)=>
 bif (decide (t17<(jobs.length:Int)))then
 aU ((0:Int)≤t17∧t17<(jobs.length:Int)) (
 (bif gB [((bif (decide ((at' jobs t17.toNat)<0))then true else(decide ((y.jobs.length:Int)≤(at' jobs t17.toNat)))),false)]then eZ s_ (at' jobs t17.toNat)else some default).bind fun r_1=>
 bif (bif (bif (decide ((at' jobs t17.toNat)<0))then true else(decide ((y.jobs.length:Int)≤(at' jobs t17.toNat))))then true else r_1)then
 some (.done (.ret (false,1)))
 else
 (dh).bind fun r_2=>
 aU ((0:Int)≤(at' jobs t17.toNat)∧(at' jobs t17.toNat)<((5:Nat):Int)) (
 some (.next ((IntKind.wrap .u8 (((BitVec.ofInt (IntKind.bits .u8) s_|||BitVec.ofInt (IntKind.bits .u8) (at' [r_2.e0,r_2.e1,r_2.e2,r_2.e3,r_2.e4] ((at' jobs t17.toNat).toNat))).toNat:Int))),(IntKind.wrap .i64 (t17+1))))))
 else
 some (.done (.brk s_))
def l8 (y:aj) (jobs:(List Int)):Option (Bool × Int):=
 (iJ y).bind fun r_=>
 bif (!decide (r_=0))then
 some (false,r_)
 else
 Option.bind (aD (yO y jobs) FUEL (0,0)) fun o=>match o with
 | .ret v=>some v
 | .brk s_1=>
 (eG y).bind fun r_3=>
 some (((bU dP s_1 r_3).getD false),0)
def kX:Option Bool:=
 (bX).bind fun r_=>
 (eD r_).bind fun r_1=>
 (l8 r_1 [0,1]).bind fun r_2=>
 (jF r_1).bind fun r_3=>
 (fV r_1).bind fun r_4=>
 (qB r_1 [0,2]).bind fun r_5=>
 bif (bif (bif (bif (bif (bif r_2.1 then true else(!decide (r_2.2=0)))then true else(!decide (r_3.2=0)))then true else(!decide (r_4.2=0)))then true else(!decide (r_5.2=0)))then true else(!decide (r_5.1=5)))then
 some false
 else
 (nP r_3.1 [0,2]).bind fun r_6=>
 bif (!r_6)then
 some false
 else
 (jd r_4.1 [[0,1]]).bind fun r_7=>
 bif (!r_7)then
 some false
 else
 (jF (⟨r_1.plant,r_1.state,r_1.transfers,r_1.jobs,r_1.people,true⟩:aj)).bind fun r_8=>
 (fV (⟨r_1.plant,r_1.state,r_1.transfers,r_1.jobs,r_1.people,true⟩:aj)).bind fun r_9=>
 bif (bif (!decide (r_8.2=4))then true else(!decide (r_9.2=0)))then
 some false
 else
 (jd r_9.1 [[0],[1]]).bind fun r_10=>
 bif (!r_10)then
 some false
 else
 (bX).bind fun r_11=>
 (eD r_11).bind fun r_12=>
 bif (!decide ((r_12.jobs.length:Int)=2))then
 some false
 else
 aU (((0:Int)≤0∧0<(r_12.jobs.length:Int))∧((0:Int)≤1∧1<(r_12.jobs.length:Int))) (
 (jF (⟨r_12.plant,r_12.state,r_12.transfers,(((r_12.jobs.set 0 (⟨(at' r_12.jobs 0).parts,(at' r_12.jobs 0).hours,(at' r_12.jobs 0).from_,4,(at' r_12.jobs 0).people,(at' r_12.jobs 0).after⟩:aC)).set 1 (⟨(at' (r_12.jobs.set 0 (⟨(at' r_12.jobs 0).parts,(at' r_12.jobs 0).hours,(at' r_12.jobs 0).from_,4,(at' r_12.jobs 0).people,(at' r_12.jobs 0).after⟩:aC)) 1).parts,(at' (r_12.jobs.set 0 (⟨(at' r_12.jobs 0).parts,(at' r_12.jobs 0).hours,(at' r_12.jobs 0).from_,4,(at' r_12.jobs 0).people,(at' r_12.jobs 0).after⟩:aC)) 1).hours,(at' (r_12.jobs.set 0 (⟨(at' r_12.jobs 0).parts,(at' r_12.jobs 0).hours,(at' r_12.jobs 0).from_,4,(at' r_12.jobs 0).people,(at' r_12.jobs 0).after⟩:aC)) 1).from_,4,(at' (r_12.jobs.set 0 (⟨(at' r_12.jobs 0).parts,(at' r_12.jobs 0).hours,(at' r_12.jobs 0).from_,4,(at' r_12.jobs 0).people,(at' r_12.jobs 0).after⟩:aC)) 1).people,(at' (r_12.jobs.set 0 (⟨(at' r_12.jobs 0).parts,(at' r_12.jobs 0).hours,(at' r_12.jobs 0).from_,4,(at' r_12.jobs 0).people,(at' r_12.jobs 0).after⟩:aC)) 1).after⟩:aC)).set 1 (⟨(at' ((r_12.jobs.set 0 (⟨(at' r_12.jobs 0).parts,(at' r_12.jobs 0).hours,(at' r_12.jobs 0).from_,4,(at' r_12.jobs 0).people,(at' r_12.jobs 0).after⟩:aC)).set 1 (⟨(at' (r_12.jobs.set 0 (⟨(at' r_12.jobs 0).parts,(at' r_12.jobs 0).hours,(at' r_12.jobs 0).from_,4,(at' r_12.jobs 0).people,(at' r_12.jobs 0).after⟩:aC)) 1).parts,(at' (r_12.jobs.set 0 (⟨(at' r_12.jobs 0).parts,(at' r_12.jobs 0).hours,(at' r_12.jobs 0).from_,4,(at' r_12.jobs 0).people,(at' r_12.jobs 0).after⟩:aC)) 1).hours,(at' (r_12.jobs.set 0 (⟨(at' r_12.jobs 0).parts,(at' r_12.jobs 0).hours,(at' r_12.jobs 0).from_,4,(at' r_12.jobs 0).people,(at' r_12.jobs 0).after⟩:aC)) 1).from_,4,(at' (r_12.jobs.set 0 (⟨(at' r_12.jobs 0).parts,(at' r_12.jobs 0).hours,(at' r_12.jobs 0).from_,4,(at' r_12.jobs 0).people,(at' r_12.jobs 0).after⟩:aC)) 1).people,(at' (r_12.jobs.set 0 (⟨(at' r_12.jobs 0).parts,(at' r_12.jobs 0).hours,(at' r_12.jobs 0).from_,4,(at' r_12.jobs 0).people,(at' r_12.jobs 0).after⟩:aC)) 1).after⟩:aC)) 1).parts,(at' ((r_12.jobs.set 0 (⟨(at' r_12.jobs 0).parts,(at' r_12.jobs 0).hours,(at' r_12.jobs 0).from_,4,(at' r_12.jobs 0).people,(at' r_12.jobs 0).after⟩:aC)).set 1 (⟨(at' (r_12.jobs.set 0 (⟨(at' r_12.jobs 0).parts,(at' r_12.jobs 0).hours,(at' r_12.jobs 0).from_,4,(at' r_12.jobs 0).people,(at' r_12.jobs 0).after⟩:aC)) 1).parts,(at' (r_12.jobs.set 0 (⟨(at' r_12.jobs 0).parts,(at' r_12.jobs 0).hours,(at' r_12.jobs 0).from_,4,(at' r_12.jobs 0).people,(at' r_12.jobs 0).after⟩:aC)) 1).hours,(at' (r_12.jobs.set 0 (⟨(at' r_12.jobs 0).parts,(at' r_12.jobs 0).hours,(at' r_12.jobs 0).from_,4,(at' r_12.jobs 0).people,(at' r_12.jobs 0).after⟩:aC)) 1).from_,4,(at' (r_12.jobs.set 0 (⟨(at' r_12.jobs 0).parts,(at' r_12.jobs 0).hours,(at' r_12.jobs 0).from_,4,(at' r_12.jobs 0).people,(at' r_12.jobs 0).after⟩:aC)) 1).people,(at' (r_12.jobs.set 0 (⟨(at' r_12.jobs 0).parts,(at' r_12.jobs 0).hours,(at' r_12.jobs 0).from_,4,(at' r_12.jobs 0).people,(at' r_12.jobs 0).after⟩:aC)) 1).after⟩:aC)) 1).hours,(at' ((r_12.jobs.set 0 (⟨(at' r_12.jobs 0).parts,(at' r_12.jobs 0).hours,(at' r_12.jobs 0).from_,4,(at' r_12.jobs 0).people,(at' r_12.jobs 0).after⟩:aC)).set 1 (⟨(at' (r_12.jobs.set 0 (⟨(at' r_12.jobs 0).parts,(at' r_12.jobs 0).hours,(at' r_12.jobs 0).from_,4,(at' r_12.jobs 0).people,(at' r_12.jobs 0).after⟩:aC)) 1).parts,(at' (r_12.jobs.set 0 (⟨(at' r_12.jobs 0).parts,(at' r_12.jobs 0).hours,(at' r_12.jobs 0).from_,4,(at' r_12.jobs 0).people,(at' r_12.jobs 0).after⟩:aC)) 1).hours,(at' (r_12.jobs.set 0 (⟨(at' r_12.jobs 0).parts,(at' r_12.jobs 0).hours,(at' r_12.jobs 0).from_,4,(at' r_12.jobs 0).people,(at' r_12.jobs 0).after⟩:aC)) 1).from_,4,(at' (r_12.jobs.set 0 (⟨(at' r_12.jobs 0).parts,(at' r_12.jobs 0).hours,(at' r_12.jobs 0).from_,4,(at' r_12.jobs 0).people,(at' r_12.jobs 0).after⟩:aC)) 1).people,(at' (r_12.jobs.set 0 (⟨(at' r_12.jobs 0).parts,(at' r_12.jobs 0).hours,(at' r_12.jobs 0).from_,4,(at' r_12.jobs 0).people,(at' r_12.jobs 0).after⟩:aC)) 1).after⟩:aC)) 1).from_,(at' ((r_12.jobs.set 0 (⟨(at' r_12.jobs 0).parts,(at' r_12.jobs 0).hours,(at' r_12.jobs 0).from_,4,(at' r_12.jobs 0).people,(at' r_12.jobs 0).after⟩:aC)).set 1 (⟨(at' (r_12.jobs.set 0 (⟨(at' r_12.jobs 0).parts,(at' r_12.jobs 0).hours,(at' r_12.jobs 0).from_,4,(at' r_12.jobs 0).people,(at' r_12.jobs 0).after⟩:aC)) 1).parts,(at' (r_12.jobs.set 0 (⟨(at' r_12.jobs 0).parts,(at' r_12.jobs 0).hours,(at' r_12.jobs 0).from_,4,(at' r_12.jobs 0).people,(at' r_12.jobs 0).after⟩:aC)) 1).hours,(at' (r_12.jobs.set 0 (⟨(at' r_12.jobs 0).parts,(at' r_12.jobs 0).hours,(at' r_12.jobs 0).from_,4,(at' r_12.jobs 0).people,(at' r_12.jobs 0).after⟩:aC)) 1).from_,4,(at' (r_12.jobs.set 0 (⟨(at' r_12.jobs 0).parts,(at' r_12.jobs 0).hours,(at' r_12.jobs 0).from_,4,(at' r_12.jobs 0).people,(at' r_12.jobs 0).after⟩:aC)) 1).people,(at' (r_12.jobs.set 0 (⟨(at' r_12.jobs 0).parts,(at' r_12.jobs 0).hours,(at' r_12.jobs 0).from_,4,(at' r_12.jobs 0).people,(at' r_12.jobs 0).after⟩:aC)) 1).after⟩:aC)) 1).to_,(at' ((r_12.jobs.set 0 (⟨(at' r_12.jobs 0).parts,(at' r_12.jobs 0).hours,(at' r_12.jobs 0).from_,4,(at' r_12.jobs 0).people,(at' r_12.jobs 0).after⟩:aC)).set 1 (⟨(at' (r_12.jobs.set 0 (⟨(at' r_12.jobs 0).parts,(at' r_12.jobs 0).hours,(at' r_12.jobs 0).from_,4,(at' r_12.jobs 0).people,(at' r_12.jobs 0).after⟩:aC)) 1).parts,(at' (r_12.jobs.set 0 (⟨(at' r_12.jobs 0).parts,(at' r_12.jobs 0).hours,(at' r_12.jobs 0).from_,4,(at' r_12.jobs 0).people,(at' r_12.jobs 0).after⟩:aC)) 1).hours,(at' (r_12.jobs.set 0 (⟨(at' r_12.jobs 0).parts,(at' r_12.jobs 0).hours,(at' r_12.jobs 0).from_,4,(at' r_12.jobs 0).people,(at' r_12.jobs 0).after⟩:aC)) 1).from_,4,(at' (r_12.jobs.set 0 (⟨(at' r_12.jobs 0).parts,(at' r_12.jobs 0).hours,(at' r_12.jobs 0).from_,4,(at' r_12.jobs 0).people,(at' r_12.jobs 0).after⟩:aC)) 1).people,(at' (r_12.jobs.set 0 (⟨(at' r_12.jobs 0).parts,(at' r_12.jobs 0).hours,(at' r_12.jobs 0).from_,4,(at' r_12.jobs 0).people,(at' r_12.jobs 0).after⟩:aC)) 1).after⟩:aC)) 1).people,[0]⟩:aC)),r_12.people,r_12.redundant⟩:aj)).bind fun r_13=>
 some (decide (r_13.2=4)))
def Gj (v_:Int):((List aC) × Int)→Option (aI ((List aC) × Int) (Ex (List aC) bE)):=
 fun zz=>match zz with
 |(o12,i)=>
 bif (bif (decide (i<v_))then(decide (i<12))else false)then
 aU ((1<o12.length)∧((((at' o12 1).after).length+[0].length)*8≤140737488355328)∧(((at' o12 1).after).length+[0].length≤4611686018427387904)) (
 some (.next ((o12.set 1 (⟨(at' o12 1).parts,(at' o12 1).hours,(at' o12 1).from_,(at' o12 1).to_,(at' o12 1).people,(((at' o12 1).after)++[0])⟩:aC)),(IntKind.wrap .i64 (i+1)))))
 else
 some (.done (.brk o12))
def Fg (v_:Int):((List aC) × Int)→Option (aI ((List aC) × Int) (Ex (List aC) bE)):=
 fun zz=>match zz with
 |(o122,i1)=>
 bif (bif (decide (i1<v_))then(decide (i1<12))else false)then
 aU (1<o122.length) (
 aU ((4≠(0:Int))∧((((at' o122 1).parts).length+[(⟨(IntKind.wrap .i64 ((1:Int)+(IntKind.wrap .i64 (Int.tdiv i1 4)))),(Int.tmod i1 4)⟩:Part)].length)*16≤140737488355328)∧(((at' o122 1).parts).length+[(⟨(IntKind.wrap .i64 ((1:Int)+(IntKind.wrap .i64 (Int.tdiv i1 4)))),(Int.tmod i1 4)⟩:Part)].length≤4611686018427387904)∧(1<o122.length)) (
 some (.next ((o122.set 1 (⟨(((at' o122 1).parts)++[(⟨(IntKind.wrap .i64 ((1:Int)+(IntKind.wrap .i64 (Int.tdiv i1 4)))),(Int.tmod i1 4)⟩:Part)]),(at' o122 1).hours,(at' o122 1).from_,(at' o122 1).to_,(at' o122 1).people,(at' o122 1).after⟩:aC)),(IntKind.wrap .i64 (i1+1))))))
 else
 some (.done (.brk o122))
def E8 (v_:Int):((List aC) × Int)→Option (aI ((List aC) × Int) (Ex (List aC) bE)):=
 fun zz=>match zz with
 |(o124,i2)=>
 bif (bif (decide (i2<v_))then(decide (i2<9))else false)then
 aU (((0:Int)≤0∧0<(o124.length:Int))∧((o124.length+[(at' o124 0)].length)*80≤140737488355328)∧(o124.length+[(at' o124 0)].length≤4611686018427387904)) (
 some (.next ((o124++[(at' o124 0)]),(IntKind.wrap .i64 (i2+1)))))
 else
 some (.done (.brk o124))
def CY (n:Int) (v_:Int) (yard:bE):Option bE:=
 aU ((0:Int)≤1∧1<([(⟨[(⟨3,0⟩:Part)],2,0,10,2,([]:List Int)⟩:aC),(⟨[(⟨3,1⟩:Part)],3,0,10,2,([]:List Int)⟩:aC)].length:Int)) (
 bif (decide (n=0))then
 aU (1<[(⟨[(⟨3,0⟩:Part)],2,0,10,2,([]:List Int)⟩:aC),(⟨[(⟨3,1⟩:Part)],3,0,10,2,([]:List Int)⟩:aC)].length) (
 aU (1<[(⟨[(⟨3,0⟩:Part)],2,0,10,2,([]:List Int)⟩:aC),(⟨[(⟨3,1⟩:Part)],v_,0,10,2,([]:List Int)⟩:aC)].length) (
 some (⟨yard.plant,yard.state,yard.transfers,[(⟨[(⟨3,0⟩:Part)],2,0,10,2,([]:List Int)⟩:aC),(⟨[(⟨3,1⟩:Part)],v_,0,48,2,([]:List Int)⟩:aC)],yard.people,yard.redundant⟩:bE)))
 else
 bif (decide (n=1))then
 aU (1<[(⟨[(⟨3,0⟩:Part)],2,0,10,2,([]:List Int)⟩:aC),(⟨[(⟨3,1⟩:Part)],3,0,10,2,([]:List Int)⟩:aC)].length) (
 aU (1<[(⟨[(⟨3,0⟩:Part)],2,0,10,2,([]:List Int)⟩:aC),(⟨[(⟨3,1⟩:Part)],3,v_,10,2,([]:List Int)⟩:aC)].length) (
 some (⟨yard.plant,yard.state,yard.transfers,[(⟨[(⟨3,0⟩:Part)],2,0,10,2,([]:List Int)⟩:aC),(⟨[(⟨3,1⟩:Part)],3,v_,48,2,([]:List Int)⟩:aC)],yard.people,yard.redundant⟩:bE)))
 else
 bif (decide (n=2))then
 aU (1<[(⟨[(⟨3,0⟩:Part)],2,0,10,2,([]:List Int)⟩:aC),(⟨[(⟨3,1⟩:Part)],3,0,10,2,([]:List Int)⟩:aC)].length) (
 some (⟨yard.plant,yard.state,yard.transfers,[(⟨[(⟨3,0⟩:Part)],2,0,10,2,([]:List Int)⟩:aC),(⟨[(⟨3,1⟩:Part)],3,0,v_,2,([]:List Int)⟩:aC)],yard.people,yard.redundant⟩:bE))
 else
 bif (decide (n=3))then
 aU (1<[(⟨[(⟨3,0⟩:Part)],2,0,10,2,([]:List Int)⟩:aC),(⟨[(⟨3,1⟩:Part)],3,0,10,2,([]:List Int)⟩:aC)].length) (
 some (⟨yard.plant,yard.state,yard.transfers,[(⟨[(⟨3,0⟩:Part)],2,0,10,2,([]:List Int)⟩:aC),(⟨[(⟨3,1⟩:Part)],3,0,10,v_,([]:List Int)⟩:aC)],yard.people,yard.redundant⟩:bE))
 else
 bif (decide (n=4))then
 aU (1<[(⟨[(⟨3,0⟩:Part)],2,0,10,2,([]:List Int)⟩:aC),(⟨[(⟨3,1⟩:Part)],3,0,10,2,([]:List Int)⟩:aC)].length) (
 some (⟨yard.plant,yard.state,yard.transfers,[(⟨[(⟨3,0⟩:Part)],2,0,10,2,([]:List Int)⟩:aC),(⟨[(⟨3,1⟩:Part)],3,0,10,2,[v_]⟩:aC)],yard.people,yard.redundant⟩:bE))
 else
 bif (decide (n=5))then
 Option.bind (aD (Gj v_) FUEL ([(⟨[(⟨3,0⟩:Part)],2,0,10,2,([]:List Int)⟩:aC),(⟨[(⟨3,1⟩:Part)],3,0,10,2,([]:List Int)⟩:aC)],0)) fun o=>match o with
 | .ret v=>some v
 | .brk o121=>
 some (⟨yard.plant,yard.state,yard.transfers,o121,yard.people,yard.redundant⟩:bE)
 else
 bif (decide (n=6))then
 some (⟨yard.plant,yard.state,yard.transfers,[(⟨[(⟨3,0⟩:Part)],2,0,10,2,([]:List Int)⟩:aC),(⟨[(⟨3,1⟩:Part)],3,0,10,2,([]:List Int)⟩:aC)],v_,yard.redundant⟩:bE)
 else
 bif (decide (n=7))then
 aU (1<[(⟨[(⟨3,0⟩:Part)],2,0,10,2,([]:List Int)⟩:aC),(⟨[(⟨3,1⟩:Part)],3,0,10,2,([]:List Int)⟩:aC)].length) (
 Option.bind (aD (Fg v_) FUEL ([(⟨[(⟨3,0⟩:Part)],2,0,10,2,([]:List Int)⟩:aC),(⟨([]:List Part),3,0,10,2,([]:List Int)⟩:aC)],0)) fun o=>match o with
 | .ret v=>some v
 | .brk o123=>
 some (⟨yard.plant,yard.state,yard.transfers,o123,yard.people,yard.redundant⟩:bE))
 else
 bif (decide (n=8))then
 aU (1<[(⟨[(⟨3,0⟩:Part)],2,0,10,2,([]:List Int)⟩:aC),(⟨[(⟨3,1⟩:Part)],3,0,10,2,([]:List Int)⟩:aC)].length) (
 some (⟨yard.plant,yard.state,yard.transfers,[(⟨[(⟨3,0⟩:Part)],2,0,10,2,([]:List Int)⟩:aC),(⟨[(⟨1,v_⟩:Part)],3,0,10,2,([]:List Int)⟩:aC)],yard.people,yard.redundant⟩:bE))
 else
 bif (decide (n=9))then
 aU (1<[(⟨[(⟨3,0⟩:Part)],2,0,10,2,([]:List Int)⟩:aC),(⟨[(⟨3,1⟩:Part)],3,0,10,2,([]:List Int)⟩:aC)].length) (
 some (⟨yard.plant,yard.state,yard.transfers,[(⟨[(⟨3,0⟩:Part)],2,0,10,2,([]:List Int)⟩:aC),(⟨[(⟨1,1⟩:Part),(⟨1,v_⟩:Part)],3,0,10,2,([]:List Int)⟩:aC)],yard.people,yard.redundant⟩:bE))
 else
 bif (decide (n=10))then
 Option.bind (aD (E8 v_) FUEL ([(⟨[(⟨3,0⟩:Part)],2,0,10,2,([]:List Int)⟩:aC),(⟨[(⟨3,1⟩:Part)],3,0,10,2,([]:List Int)⟩:aC)],0)) fun o=>match o with
 | .ret v=>some v
 | .brk o125=>
 some (⟨yard.plant,yard.state,yard.transfers,o125,yard.people,yard.redundant⟩:bE)
 else
 aU (1<[(⟨[(⟨3,0⟩:Part)],2,0,10,2,([]:List Int)⟩:aC),(⟨[(⟨3,1⟩:Part)],3,0,10,2,([]:List Int)⟩:aC)].length) (
 some (⟨yard.plant,yard.state,yard.transfers,[(⟨[(⟨3,0⟩:Part)],2,0,10,2,([]:List Int)⟩:aC),(⟨[(⟨3,1⟩:Part)],v_,v_,v_,2,([]:List Int)⟩:aC)],yard.people,yard.redundant⟩:bE)))
def wm (n:Int):Int→Option (aI Int (Ex Unit (aI Int (Ex Unit Bool)))):=
 fun t30=>
 bif (decide (t30<([(-1),0,1,2,5,8,9,20,21,47,48,49,1000,1001].length:Int)))then
 aU ((0:Int)≤t30∧t30<([(-1),0,1,2,5,8,9,20,21,47,48,49,1000,1001].length:Int)) (
 (bX).bind fun r_=>
 (CY n (at' [(-1),0,1,2,5,8,9,20,21,47,48,49,1000,1001] t30.toNat) (⟨r_.plant,r_.state,r_.transfers,[(⟨[(⟨3,0⟩:Part)],2,0,10,2,([]:List Int)⟩:aC),(⟨[(⟨3,1⟩:Part)],3,0,10,2,([]:List Int)⟩:aC)],r_.people,r_.redundant⟩:bE)).bind fun r_1=>
 (eD r_1).bind fun r_2=>
 (iJ r_2).bind fun r_3=>
 (iX r_1).bind fun r_4=>
 bif (!decide (r_3=r_4))then
 some (.done (.ret (.done (.ret false))))
 else
 some (.next (IntKind.wrap .i64 (t30+1))))
 else
 some (.done (.brk ()))
def lu  :Int→Option (aI Int (Ex Unit Bool)):=
 fun n=>
 bif (decide (n<12))then
 Option.bind (aD (wm n) FUEL (0)) fun o=>match o with
 | .ret v=>some v
 | .brk _=>
 some (.next (IntKind.wrap .i64 (n+1)))
 else
 some (.done (.brk ()))
def wK (n1:Int):((List aC) × Int)→Option (aI ((List aC) × Int) (Ex (List aC) (Ex Unit (aI Int (Ex Unit Bool))))):=
 fun zz=>match zz with
 |(y12,i)=>
 bif (decide (i<5))then
 aU ((3≠(0:Int))∧(4≠(0:Int))∧(2≠(0:Int))) (
 aU (3≠(0:Int)) (
 bif (bif (decide ((Int.tmod n1 3)=1))then(decide (0<i))else false)then
 aU (((y12.length+[(⟨[(⟨3,(Int.tmod (IntKind.wrap .i64 (i+n1)) 3)⟩:Part)],(IntKind.wrap .i64 ((1:Int)+(Int.tmod (IntKind.wrap .i64 (i+n1)) 3))),0,(IntKind.wrap .i64 ((4:Int)+(IntKind.wrap .i64 (Int.tdiv n1 4)))),(IntKind.wrap .i64 ((1:Int)+(Int.tmod i 2))),[(IntKind.wrap .i64 (i - 1))]⟩:aC)].length)*80≤140737488355328)∧(y12.length+[(⟨[(⟨3,(Int.tmod (IntKind.wrap .i64 (i+n1)) 3)⟩:Part)],(IntKind.wrap .i64 ((1:Int)+(Int.tmod (IntKind.wrap .i64 (i+n1)) 3))),0,(IntKind.wrap .i64 ((4:Int)+(IntKind.wrap .i64 (Int.tdiv n1 4)))),(IntKind.wrap .i64 ((1:Int)+(Int.tmod i 2))),[(IntKind.wrap .i64 (i - 1))]⟩:aC)].length≤4611686018427387904)) (
 some (.next ((y12++[(⟨[(⟨3,(Int.tmod (IntKind.wrap .i64 (i+n1)) 3)⟩:Part)],(IntKind.wrap .i64 ((1:Int)+(Int.tmod (IntKind.wrap .i64 (i+n1)) 3))),0,(IntKind.wrap .i64 ((4:Int)+(IntKind.wrap .i64 (Int.tdiv n1 4)))),(IntKind.wrap .i64 ((1:Int)+(Int.tmod i 2))),[(IntKind.wrap .i64 (i - 1))]⟩:aC)]),(IntKind.wrap .i64 (i+1)))))
 else
 aU (((y12.length+[(⟨[(⟨3,(Int.tmod (IntKind.wrap .i64 (i+n1)) 3)⟩:Part)],(IntKind.wrap .i64 ((1:Int)+(Int.tmod (IntKind.wrap .i64 (i+n1)) 3))),0,(IntKind.wrap .i64 ((4:Int)+(IntKind.wrap .i64 (Int.tdiv n1 4)))),(IntKind.wrap .i64 ((1:Int)+(Int.tmod i 2))),([]:List Int)⟩:aC)].length)*80≤140737488355328)∧(y12.length+[(⟨[(⟨3,(Int.tmod (IntKind.wrap .i64 (i+n1)) 3)⟩:Part)],(IntKind.wrap .i64 ((1:Int)+(Int.tmod (IntKind.wrap .i64 (i+n1)) 3))),0,(IntKind.wrap .i64 ((4:Int)+(IntKind.wrap .i64 (Int.tdiv n1 4)))),(IntKind.wrap .i64 ((1:Int)+(Int.tmod i 2))),([]:List Int)⟩:aC)].length≤4611686018427387904)) (
 some (.next ((y12++[(⟨[(⟨3,(Int.tmod (IntKind.wrap .i64 (i+n1)) 3)⟩:Part)],(IntKind.wrap .i64 ((1:Int)+(Int.tmod (IntKind.wrap .i64 (i+n1)) 3))),0,(IntKind.wrap .i64 ((4:Int)+(IntKind.wrap .i64 (Int.tdiv n1 4)))),(IntKind.wrap .i64 ((1:Int)+(Int.tmod i 2))),([]:List Int)⟩:aC)]),(IntKind.wrap .i64 (i+1)))))))
 else
 some (.done (.brk y12))
def vK (y121:(List aC)):(Int × Int)→Option (aI (Int × Int) (Ex Int (Ex Unit (aI Int (Ex Unit Bool))))):=
 fun zz=>match zz with
 |(total,i1)=>
 bif (decide (i1<5))then
 aU ((0:Int)≤i1∧i1<(y121.length:Int)) (
 some (.next ((IntKind.wrap .i64 (total+((at' y121 i1.toNat).hours))),(IntKind.wrap .i64 (i1+1)))))
 else
 some (.done (.brk total))
def wH (n1:Int) (r_5:bE) (y121:(List aC)):(Bool × Int)→Option (aI (Bool × Int) (Ex Bool (Ex Unit (aI Int (Ex Unit Bool))))):=
 fun zz=>match zz with
 |(bearable,i2)=>
 bif (decide (i2<5))then
 (kR (⟨r_5.plant,r_5.state,r_5.transfers,y121,(IntKind.wrap .i64 ((2:Int)+(Int.tmod n1 5))),(decide ((Int.tmod n1 7)=3))⟩:bE) [i2]).bind fun r_12=>
 some (.next ((bif bearable then r_12.1 else false),(IntKind.wrap .i64 (i2+1))))
 else
 some (.done (.brk bearable))
def vY (y121:(List aC)):(Int × Int)→Option (aI (Int × Int) (Ex Int (Ex Unit (aI Int (Ex Unit Bool))))):=
 fun zz=>match zz with
 |(total2,i3)=>
 bif (decide (i3<5))then
 aU ((0:Int)≤i3∧i3<(y121.length:Int)) (
 some (.next ((IntKind.wrap .i64 (total2+((at' y121 i3.toNat).hours))),(IntKind.wrap .i64 (i3+1)))))
 else
 some (.done (.brk total2))
def vR (n1:Int) (r_5:bE) (y121:(List aC)):(Bool × Int)→Option (aI (Bool × Int) (Ex Bool (Ex Unit (aI Int (Ex Unit Bool))))):=
 fun zz=>match zz with
 |(bearable2,i4)=>
 bif (decide (i4<5))then
 (kR (⟨r_5.plant,r_5.state,r_5.transfers,y121,(IntKind.wrap .i64 ((2:Int)+(Int.tmod n1 5))),(decide ((Int.tmod n1 7)=3))⟩:bE) [i4]).bind fun r_13=>
 some (.next ((bif bearable2 then r_13.1 else false),(IntKind.wrap .i64 (i4+1))))
 else
 some (.done (.brk bearable2))
def eB (w0:aj→Option ((List (List Int)) × Int))  :Int→Option (aI Int (Ex Unit Bool)):=
 fun n1=>
 bif (decide (n1<40))then
 Option.bind (α:=(Ex Unit (aI Int (Ex Unit Bool)))) (
 (bX).bind fun r_5=>
 aU (5≠(0:Int)) (
 aU (7≠(0:Int)) (
 Option.bind (aD (wK n1) FUEL (([]:List aC),0)) fun o=>match o with
 | .ret v=>some v
 | .brk y121=>
 (eD (⟨r_5.plant,r_5.state,r_5.transfers,y121,(IntKind.wrap .i64 ((2:Int)+(Int.tmod n1 5))),(decide ((Int.tmod n1 7)=3))⟩:bE)).bind fun r_6=>
 (w0 r_6).bind fun r_7=>
 (Dc (⟨r_5.plant,r_5.state,r_5.transfers,y121,(IntKind.wrap .i64 ((2:Int)+(Int.tmod n1 5))),(decide ((Int.tmod n1 7)=3))⟩:bE)).bind fun r_8=>
 (bif gB [((!decide (r_7.2=r_8.2)),false)]then jd r_7.1 r_8.1 else some default).bind fun r_9=>
 bif (bif (!decide (r_7.2=r_8.2))then true else(!r_9))then
 some (.ret (.done (.ret false)))
 else
 (jF r_6).bind fun r_10=>
 bif (decide (r_10.2=0))then
 (vz (⟨r_5.plant,r_5.state,r_5.transfers,y121,(IntKind.wrap .i64 ((2:Int)+(Int.tmod n1 5))),(decide ((Int.tmod n1 7)=3))⟩:bE) r_10.1).bind fun r_11=>
 aU (gB [((!decide (r_11.2=0)),false)]=true→4≠(0:Int)) (
 bif (bif (!decide (r_11.2=0))then true else(decide ((IntKind.wrap .i64 ((4:Int)+(IntKind.wrap .i64 (Int.tdiv n1 4))))<r_11.1)))then
 some (.ret (.done (.ret false)))
 else
 aU (3≠(0:Int)) (
 bif (decide ((Int.tmod n1 3)=1))then
 Option.bind (aD (vK y121) FUEL (0,0)) fun o=>match o with
 | .ret v=>some v
 | .brk total1=>
 Option.bind (aD (wH n1 r_5 y121) FUEL (true,0)) fun o=>match o with
 | .ret v=>some v
 | .brk bearable1=>
 aU (gB [(bearable1,true)]=true→4≠(0:Int)) (
 bif (!((decide (r_10.2=0))==(bif bearable1 then(decide (total1≤(IntKind.wrap .i64 ((4:Int)+(IntKind.wrap .i64 (Int.tdiv n1 4))))))else false)))then
 some (.ret (.done (.ret false)))
 else
 some (.brk ()))
 else
 some (.brk ())))
 else
 bif (!decide (r_10.2=4))then
 some (.ret (.done (.ret false)))
 else
 aU (3≠(0:Int)) (
 bif (decide ((Int.tmod n1 3)=1))then
 Option.bind (aD (vY y121) FUEL (0,0)) fun o=>match o with
 | .ret v=>some v
 | .brk total3=>
 Option.bind (aD (vR n1 r_5 y121) FUEL (true,0)) fun o=>match o with
 | .ret v=>some v
 | .brk bearable3=>
 aU (gB [(bearable3,true)]=true→4≠(0:Int)) (
 bif (!((decide (r_10.2=0))==(bif bearable3 then(decide (total3≤(IntKind.wrap .i64 ((4:Int)+(IntKind.wrap .i64 (Int.tdiv n1 4))))))else false)))then
 some (.ret (.done (.ret false)))
 else
 some (.brk ()))
 else
 some (.brk ()))))) fun o=>match o with
 | .ret v=>some v
 | .brk _=>
 some (.next (IntKind.wrap .i64 (n1+1)))
 else
 some (.done (.brk ()))
def dw  :Int→Option (aI Int (Ex Unit Bool)):=eB fV 
def gX:Option Bool:=
 Option.bind (aD lu FUEL (0)) fun o=>match o with
 | .ret v=>some v
 | .brk _=>
 Option.bind (aD dw FUEL (0)) fun o=>match o with
 | .ret v=>some v
 | .brk _=>
 (kX).bind fun r_14=>
 some r_14
end Sg
